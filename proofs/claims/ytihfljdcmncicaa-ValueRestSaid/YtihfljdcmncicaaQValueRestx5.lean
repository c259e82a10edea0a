-- Written by wip/tools/myprint.py of this project (the kit's printer with lines replaced in memory, and texts of ours)
import Derived.Test.YtihfljdcmncicaaQValueRestx0
import Derived.Test.YtihfljdcmncicaaQValueRestx3
namespace Go.Proofs.Ytihfljdcmncicaa.QValueRest
open Go.RowKit Go.Proofs.YtihfljdcmncicaaW.PrintWords Go.Proofs.YtihfljdcmncicaaW.PrintLast Go.Proofs.YtihfljdcmncicaaW.PrintMore
attribute [local go_sem] max2_int min2_int max_two min_two max_three min_three max_four min_four   -- for this text's walks alone
set_option linter.unusedVariables false
set_option linter.unusedSimpArgs false

/-! ### bits_Mul64: function 46 -/
def bits_Mul64.f (a0 : Int) (a1 : Int) : Option (Int × Int) := some (IntKind.u64.wrap ((IntKind.u64.wrap ((IntKind.u64.wrap ((a0 / 4294967296) * (a1 / 4294967296))) + ((IntKind.u64.wrap ((IntKind.u64.wrap ((a0 / 4294967296) * (Go.bits .and .u64 a1 4294967295))) + ((IntKind.u64.wrap ((Go.bits .and .u64 a0 4294967295) * (Go.bits .and .u64 a1 4294967295))) / 4294967296))) / 4294967296))) + ((IntKind.u64.wrap ((Go.bits .and .u64 (IntKind.u64.wrap ((IntKind.u64.wrap ((a0 / 4294967296) * (Go.bits .and .u64 a1 4294967295))) + ((IntKind.u64.wrap ((Go.bits .and .u64 a0 4294967295) * (Go.bits .and .u64 a1 4294967295))) / 4294967296))) 4294967295) + (IntKind.u64.wrap ((Go.bits .and .u64 a0 4294967295) * (a1 / 4294967296))))) / 4294967296)), IntKind.u64.wrap (a0 * a1))
set_option maxHeartbeats 8000000 in
set_option maxRecDepth 100000 in
theorem bits_Mul64.calls (a0 : Int) (a1 : Int) (r1 : Int) (r2 : Int) (w : World) (h : bits_Mul64.f a0 a1 = some (r1, r2)) :
    Calls Try.prog 46 #[.int .u64 a0, .int .u64 a1] w fun e w' => e = .returned (.tuple #[.int .u64 r1, .int .u64 r2]) ∧ Drawn0 w w' := by
  have H : (some (IntKind.u64.wrap ((IntKind.u64.wrap ((IntKind.u64.wrap ((a0 / 4294967296) * (a1 / 4294967296))) + ((IntKind.u64.wrap ((IntKind.u64.wrap ((a0 / 4294967296) * (Go.bits .and .u64 a1 4294967295))) + ((IntKind.u64.wrap ((Go.bits .and .u64 a0 4294967295) * (Go.bits .and .u64 a1 4294967295))) / 4294967296))) / 4294967296))) + ((IntKind.u64.wrap ((Go.bits .and .u64 (IntKind.u64.wrap ((IntKind.u64.wrap ((a0 / 4294967296) * (Go.bits .and .u64 a1 4294967295))) + ((IntKind.u64.wrap ((Go.bits .and .u64 a0 4294967295) * (Go.bits .and .u64 a1 4294967295))) / 4294967296))) 4294967295) + (IntKind.u64.wrap ((Go.bits .and .u64 a0 4294967295) * (a1 / 4294967296))))) / 4294967296)), IntKind.u64.wrap (a0 * a1))) = some (r1, r2) := h
  clear h
  simp only [Option.some.injEq, Prod.mk.injEq] at H
  obtain ⟨rfl, rfl⟩ := H
  go_enter Try.func46, Try.ntmps46
  go_wp2
  go_ret2
  exact ⟨by first | rfl | (simp; done) | (simp [*]; done), by repeat (first | exact Drawn0.refl _ | apply Drawn0.step)⟩

/-! ### value_size: function 47 -/
def value_size.f (a0 : Int) : Option (Int) := if a0 < 0 then (some (IntKind.u64.wrap (-(IntKind.u64.wrap (a0))))) else (some (IntKind.u64.wrap (a0)))
set_option maxHeartbeats 8000000 in
set_option maxRecDepth 100000 in
theorem value_size.calls (a0 : Int) (r : Int) (w : World) (h : value_size.f a0 = some r) :
    Calls Try.prog 47 #[.int .i64 a0] w fun e w' => e = .returned (.int .u64 r) ∧ Drawn0 w w' := by
  have H : (if a0 < 0 then (some (IntKind.u64.wrap (-(IntKind.u64.wrap (a0))))) else (some (IntKind.u64.wrap (a0)))) = some r := h
  clear h
  by_cases c2 : a0 < 0
  · rw [if_pos c2] at H
    have c2b0 : decide (a0 < 0) = true := decide_eq_true c2
    clear c2
    obtain rfl := Option.some.inj H
    go_enter Try.func47, Try.ntmps47
    go_wp2
    go_ret
    exact ⟨by first | rfl | (simp; done) | (simp [*]; done), by repeat (first | exact Drawn0.refl _ | apply Drawn0.step)⟩
  · rw [if_neg c2] at H
    have c2b0 : decide (a0 < 0) = false := decide_eq_false c2
    clear c2
    obtain rfl := Option.some.inj H
    go_enter Try.func47, Try.ntmps47
    go_wp2
    go_ret
    exact ⟨by first | rfl | (simp; done) | (simp [*]; done), by repeat (first | exact Drawn0.refl _ | apply Drawn0.step)⟩

/-! ### value_Mul: function 27 -/
def mulRest (hi lo : Int) (below : Bool) : Int × Int × ByteArray × Int := if hi ≠ 0 ∨ 9223372036854775808 < lo ∨ (lo = 9223372036854775808 ∧ below = false) then (0, 0, (⟨#[]⟩ : ByteArray), 3) else (1, wrap64 (if below = true then IntKind.u64.wrap (-lo) else lo), (⟨#[]⟩ : ByteArray), 0)
def value_Mul.f (k : Nat) (a0_0 : Int) (a0_1 : Int) (a0_2 : ByteArray) (a1_0 : Int) (a1_1 : Int) (a1_2 : ByteArray) : Option (Int × Int × ByteArray × Int) :=
  (value_null.f k 1 [(⟨a0_0, a0_1, a0_2⟩ : S23), ⟨a1_0, a1_1, a1_2⟩]).bind fun p => if p.2 = true then some (0, 0, (⟨#[]⟩ : ByteArray), p.1) else (value_size.f a0_1).bind fun x => (value_size.f a1_1).bind fun y => (bits_Mul64.f x y).bind fun q => some (mulRest q.1 q.2 (decide (a0_1 < 0) != decide (a1_1 < 0)))
theorem value_Mul.mono : ∀ a0 a1 a2 a3 a4 a5 k, LeO (value_Mul.f k a0 a1 a2 a3 a4 a5) (value_Mul.f (k + 1) a0 a1 a2 a3 a4 a5) := by
  intro a0 a1 a2 a3 a4 a5 k
  unfold value_Mul.f
  exact LeO.bind (value_null.mono _ _ _) (fun _ => LeO.refl _)
theorem value_Mul.nr (n : Int) (w : World) : Calls Try.prog 45 #[.int .i64 n] w fun e w' => e = .returned (.agg #[.int .i64 1, .int .i64 n, .string (⟨#[]⟩ : ByteArray)]) ∧ Below w.heap.size w w' := value_number.calls n 1 _ _ w rfl
theorem value_Mul.over {hi lo : Int} {c : Bool} (h : hi ≠ 0 ∨ 9223372036854775808 < lo ∨ (lo = 9223372036854775808 ∧ c = false)) : mulRest hi lo c = (0, 0, (⟨#[]⟩ : ByteArray), 3) := if_pos h
theorem value_Mul.okay {hi lo : Int} {c d : Bool} (hc : c = d) (h : ¬ (hi ≠ 0 ∨ 9223372036854775808 < lo ∨ (lo = 9223372036854775808 ∧ d = false))) : mulRest hi lo c = (1, wrap64 (if d = true then IntKind.u64.wrap (-lo) else lo), (⟨#[]⟩ : ByteArray), 0) := by subst hc; exact if_neg h
theorem value_Mul.b0 {a b : Bool} (h : (a == b) = true) : (a != b) = false := by cases a <;> cases b <;> first | rfl | simp at h
theorem value_Mul.b1 {a b : Bool} (h : (!(a == b)) = true) : (a != b) = true := by cases a <;> cases b <;> first | rfl | simp at h
theorem value_Mul.b2 {a b : Bool} (h : (!(a == b)) = false) : (a != b) = false := by cases a <;> cases b <;> first | rfl | simp at h
theorem value_Mul.b3 {a b : Bool} (h : (a == b) = false) (h2 : (!(a == b)) = false) : False := by cases a <;> cases b <;> simp at h h2
theorem value_Mul.ce {w w1 : World} {p : Addr} {v : Value} (hb : Below w.heap.size w w1) (h : w.cell? p = some v) : w1.cell? p = some v := (hb.cell (World.block_lt_of_cell? w _ h)).trans h
theorem value_Mul.bl {W w w1 : World} (hb : Below w.heap.size w w1) (h : Aside0 (Below W.heap.size W w)) : Aside0 (Below W.heap.size W w1) := ⟨below_step h.out hb⟩
theorem value_Mul.cl {w w1 : World} {g : Nat} {f : Nat → Option Value} (hb : Below w.heap.size w w1) (hg : g < w.heap.size) (h : ∀ o, w.cell? ⟨g, o, none⟩ = f o) : ∀ o, w1.cell? ⟨g, o, none⟩ = f o := fun o => ((bcell_ hb).1 g o hg).trans (h o)
theorem value_Mul.fl {w w1 : World} {g : Nat} (hb : Below w.heap.size w w1) (hg : g < w.heap.size) (h : ∀ o, w.frozen? ⟨g, o, none⟩ = false) : ∀ o, w1.frozen? ⟨g, o, none⟩ = false := fun o => ((bcell_ hb).2 g o hg).trans (h o)
theorem value_Mul.keep {w w' w2 : World} {a0_1 a1_1 : Int} (h : w'.cell? ⟨w.heap.size, 1, none⟩ = some (.int .i64 a0_1) ∧ w'.cell? ⟨w.heap.size + 1, 1, none⟩ = some (.int .i64 a1_1) ∧ (∀ o, w'.cell? ⟨w.heap.size + 1 + 1, o, none⟩ = #[Value.int .i64 0, .int .i64 0, .string (⟨#[]⟩ : ByteArray)][o]?) ∧ (∀ o, w'.frozen? ⟨w.heap.size + 1 + 1, o, none⟩ = false) ∧ w.heap.size + 1 + 1 + 1 + 1 ≤ w'.heap.size ∧ Aside0 (Below w.heap.size w w')) (hb : Below w'.heap.size w' w2) : w2.cell? ⟨w.heap.size, 1, none⟩ = some (.int .i64 a0_1) ∧ w2.cell? ⟨w.heap.size + 1, 1, none⟩ = some (.int .i64 a1_1) ∧ (∀ o, w2.cell? ⟨w.heap.size + 1 + 1, o, none⟩ = #[Value.int .i64 0, .int .i64 0, .string (⟨#[]⟩ : ByteArray)][o]?) ∧ (∀ o, w2.frozen? ⟨w.heap.size + 1 + 1, o, none⟩ = false) ∧ w.heap.size + 1 + 1 + 1 + 1 ≤ w2.heap.size ∧ Aside0 (Below w.heap.size w w2) := ⟨value_Mul.ce hb h.1, value_Mul.ce hb h.2.1, value_Mul.cl hb (by have := h.2.2.2.2.1; omega) h.2.2.1, value_Mul.fl hb (by have := h.2.2.2.2.1; omega) h.2.2.2.1, Nat.le_trans h.2.2.2.2.1 hb.size, value_Mul.bl hb h.2.2.2.2.2⟩
theorem value_Mul.bd {W w' : World} (hb : Below W.drew.heap.size W.drew w') : Below W.heap.size W w' := below_step (below_drew1 (Below.refl _ _)) hb
set_option maxHeartbeats 2000000 in
theorem value_Mul.calls (k : Nat) (a0_0 : Int) (a0_1 : Int) (a0_2 : ByteArray) (a1_0 : Int) (a1_1 : Int) (a1_2 : ByteArray) (r1 : Int) (r2 : Int) (r3 : ByteArray) (r4 : Int) (w : World) (h : value_Mul.f k a0_0 a0_1 a0_2 a1_0 a1_1 a1_2 = some (r1, r2, r3, r4)) :
    Calls Try.prog 27 #[.agg #[.int .i64 a0_0, .int .i64 a0_1, .string a0_2], .agg #[.int .i64 a1_0, .int .i64 a1_1, .string a1_2]] w fun e w' => e = .returned (.tuple #[.agg #[.int .i64 r1, .int .i64 r2, .string r3], .int .i64 r4]) ∧ Below w.heap.size w w' := by
  have hu := Try.underlying23
  unfold value_Mul.f at h
  obtain ⟨⟨e0, ok⟩, hN, H⟩ := Option.bind_eq_some_iff.mp h
  clear h
  have HN := Aside0.mk hN
  clear hN
  cases ok with
  | true =>
    simp only [if_pos, Option.some.injEq, Prod.mk.injEq] at H
    obtain ⟨rfl, rfl, rfl, rfl⟩ := H
    go_enter Try.func27, Try.ntmps27
    go_wp2_with (first | (go_at_call 40; refine (value_null.calls k 1 _ _ [(⟨a0_0, a0_1, a0_2⟩ : S23), ⟨a1_0, a1_1, a1_2⟩] e0 true _ (two_vals _ _ _ _ ?hh) (Nat.le_refl 2) HN.out).mono ?_; (case hh => exact heap_new_ _ _ (by simp)); rintro e w1 ⟨rfl, hb⟩; obtain ⟨hc, hf⟩ := bcell_ hb; have HZ := hb.size; simp at HZ; have HB : Aside0 (Below w.heap.size w w1) := Aside0.mk (below_step (by repeat (first | exact Below.refl _ _ | apply below_alloc)) hb); clear hb))
    refine bodyPost_ret (v := .tuple #[.agg #[.int .i64 0, .int .i64 0, .string (⟨#[]⟩ : ByteArray)], .int .i64 e0]) (by simp [results, Try.results27, go_sem, hc, hf]) rfl ⟨rfl, (by repeat (first | exact Aside0.out (by assumption) | refine below_set ?_ (by omega) | apply below_alloc))⟩
  | false =>
    simp only [Bool.false_eq_true, if_false] at H
    obtain ⟨x, hX, H2⟩ := Option.bind_eq_some_iff.mp H
    clear H
    obtain ⟨y, hY, H3⟩ := Option.bind_eq_some_iff.mp H2
    clear H2
    obtain ⟨⟨hi, lo⟩, hM, H4⟩ := Option.bind_eq_some_iff.mp H3
    clear H3
    have H := Option.some.inj H4
    clear H4
    have HX := Aside0.mk hX
    have HY := Aside0.mk hY
    have HM := Aside0.mk hM
    have HR := Aside0.mk H
    clear hX hY hM H
    go_enter Try.func27, Try.ntmps27
    go_wp2_with (first | (go_at_call 40; refine (value_null.calls k 1 _ _ [(⟨a0_0, a0_1, a0_2⟩ : S23), ⟨a1_0, a1_1, a1_2⟩] e0 false _ (two_vals _ _ _ _ ?hh) (Nat.le_refl 2) HN.out).mono ?_; (case hh => exact heap_new_ _ _ (by simp)); rintro e w1 ⟨rfl, hb⟩; obtain ⟨hc, hf⟩ := bcell_ hb; have HZ := hb.size; simp at HZ; have HB : Aside0 (Below w.heap.size w w1) := Aside0.mk (below_step (by repeat (first | exact Below.refl _ _ | apply below_alloc)) hb); clear hb))
    have q0 : w1.cell? ⟨w.heap.size, 1, none⟩ = some (.int .i64 a0_1) := by rw [hc _ _ (by simp; omega)]; simp [go_sem]
    have q1 : w1.cell? ⟨w.heap.size + 1, 1, none⟩ = some (.int .i64 a1_1) := by rw [hc _ _ (by simp)]; simp [go_sem]
    have q2 : ∀ o, w1.cell? ⟨w.heap.size + 1 + 1, o, none⟩ = #[Value.int .i64 0, .int .i64 0, .string (⟨#[]⟩ : ByteArray)][o]? := fun o => by rw [hc _ _ (by simp)]; simp [go_sem]
    have q2f : ∀ o, w1.frozen? ⟨w.heap.size + 1 + 1, o, none⟩ = false := fun o => by rw [hf _ _ (by simp)]; simp [go_sem]
    have hS : w1.cell? ⟨w.heap.size, 1, none⟩ = some (.int .i64 a0_1) ∧ w1.cell? ⟨w.heap.size + 1, 1, none⟩ = some (.int .i64 a1_1) ∧ (∀ o, w1.cell? ⟨w.heap.size + 1 + 1, o, none⟩ = #[Value.int .i64 0, .int .i64 0, .string (⟨#[]⟩ : ByteArray)][o]?) ∧ (∀ o, w1.frozen? ⟨w.heap.size + 1 + 1, o, none⟩ = false) ∧ w.heap.size + 1 + 1 + 1 + 1 ≤ w1.heap.size ∧ Aside0 (Below w.heap.size w w1) := ⟨q0, q1, q2, q2f, HZ, HB⟩
    clear hc hf q0 q1 q2 q2f HZ HB
    go_region_held3 (fun w' => w'.cell? ⟨w.heap.size, 1, none⟩ = some (.int .i64 a0_1) ∧ w'.cell? ⟨w.heap.size + 1, 1, none⟩ = some (.int .i64 a1_1) ∧ (∀ o, w'.cell? ⟨w.heap.size + 1 + 1, o, none⟩ = #[Value.int .i64 0, .int .i64 0, .string (⟨#[]⟩ : ByteArray)][o]?) ∧ (∀ o, w'.frozen? ⟨w.heap.size + 1 + 1, o, none⟩ = false) ∧ w.heap.size + 1 + 1 + 1 + 1 ≤ w'.heap.size ∧ Aside0 (Below w.heap.size w w'))
      (first | assumption | exact value_Mul.keep (by assumption) (below_drew1 (Below.refl _ _)) | exact value_Mul.keep (by assumption) (by assumption) | exact value_Mul.keep (by assumption) (value_Mul.bd (by assumption)))
      (first | (go_at_call 47; first | (refine (value_size.calls a0_1 x _ HX.out).mono ?_; rintro e w' ⟨rfl, hb⟩; replace hb := hb.below) | (refine (value_size.calls a1_1 y _ HY.out).mono ?_; rintro e w' ⟨rfl, hb⟩; replace hb := hb.below)) | (go_at_call 46; refine (bits_Mul64.calls x y hi lo _ HM.out).mono ?_; rintro e w' ⟨rfl, hb⟩; replace hb := hb.below))
    rename_i hh_
    obtain ⟨q0, q1, q2, q2f, HZ, HB⟩ := hh_
    go_wp2_with (first | (go_at_call 45; refine (value_Mul.nr _ _).mono ?_; rintro e w3 ⟨rfl, hb3⟩; obtain ⟨hc3, hf3⟩ := bcell_ hb3; have q3 : ∀ o, w3.cell? ⟨w.heap.size + 1 + 1, o, none⟩ = #[Value.int .i64 0, .int .i64 0, .string (⟨#[]⟩ : ByteArray)][o]? := value_Mul.cl hb3 (by omega) q2; have q3f : ∀ o, w3.frozen? ⟨w.heap.size + 1 + 1, o, none⟩ = false := value_Mul.fl hb3 (by omega) q2f; have HZ2 := hb3.size; have HB2 : Aside0 (Below w.heap.size w w3) := Aside0.mk (below_step HB.out hb3); clear HB hb3 hc3 hf3; have HB := HB2; clear HB2))
    all_goals clear HN HX HY HM
    · have H := HR.out
      rw [value_Mul.over (.inl (by simpa using (by assumption : (hi != 0) = true)))] at H
      simp only [Prod.mk.injEq] at H
      obtain ⟨rfl, rfl, rfl, rfl⟩ := H
      refine bodyPost_ret ?_ rfl ⟨rfl, (by repeat (first | exact HB.out | refine below_set ?_ (by omega)))⟩
      simp [results, Try.results27, go_sem, q2, q2f]
    · have H := HR.out
      rw [value_Mul.over (.inr (.inl (by assumption)))] at H
      simp only [Prod.mk.injEq] at H
      obtain ⟨rfl, rfl, rfl, rfl⟩ := H
      refine bodyPost_ret ?_ rfl ⟨rfl, (by repeat (first | exact HB.out | refine below_set ?_ (by omega)))⟩
      simp [results, Try.results27, go_sem, q2, q2f]
    · have H := HR.out
      rw [value_Mul.over (.inr (.inr ⟨by assumption, value_Mul.b0 (by assumption)⟩))] at H
      simp only [Prod.mk.injEq] at H
      obtain ⟨rfl, rfl, rfl, rfl⟩ := H
      refine bodyPost_ret ?_ rfl ⟨rfl, (by repeat (first | exact HB.out | refine below_set ?_ (by omega)))⟩
      simp [results, Try.results27, go_sem, q2, q2f]
    · have H := HR.out
      rw [value_Mul.okay (value_Mul.b1 (by assumption)) (fun x => x.elim (show ¬ hi ≠ 0 from fun x => x (by simpa using (by assumption : (hi != 0) = false))) fun x => x.elim (by omega) fun x => Bool.noConfusion x.2)] at H
      simp only [Prod.mk.injEq] at H
      obtain ⟨rfl, rfl, rfl, rfl⟩ := H
      refine bodyPost_ret ?_ rfl ⟨rfl, (by repeat (first | exact HB.out | refine below_set ?_ (by omega)))⟩
      simp [results, Try.results27, go_sem, q3, q3f, *]
    · exact (value_Mul.b3 (by assumption) (by assumption)).elim
    · have H := HR.out
      rw [value_Mul.okay (value_Mul.b1 (by assumption)) (fun x => x.elim (show ¬ hi ≠ 0 from fun x => x (by simpa using (by assumption : (hi != 0) = false))) fun x => x.elim (by omega) fun x => Bool.noConfusion x.2)] at H
      simp only [Prod.mk.injEq] at H
      obtain ⟨rfl, rfl, rfl, rfl⟩ := H
      refine bodyPost_ret ?_ rfl ⟨rfl, (by repeat (first | exact HB.out | refine below_set ?_ (by omega)))⟩
      simp [results, Try.results27, go_sem, q3, q3f]
    · have H := HR.out
      rw [value_Mul.okay (value_Mul.b2 (by assumption)) (fun x => x.elim (show ¬ hi ≠ 0 from fun x => x (by simpa using (by assumption : (hi != 0) = false))) fun x => x.elim (by omega) fun x => absurd x.1 (by omega))] at H
      simp only [Prod.mk.injEq] at H
      obtain ⟨rfl, rfl, rfl, rfl⟩ := H
      refine bodyPost_ret ?_ rfl ⟨rfl, (by repeat (first | exact HB.out | refine below_set ?_ (by omega)))⟩
      simp [results, Try.results27, go_sem, q3, q3f]

/-! ### value_Sub: function 28 -/
def subOver (a b : Int) : Bool := decide (Go.bits .and .i64 (Go.bits .xor .i64 a b) (Go.bits .xor .i64 a (wrap64 (a - b))) < 0)
def value_Sub.f (k : Nat) (a0_0 : Int) (a0_1 : Int) (a0_2 : ByteArray) (a1_0 : Int) (a1_1 : Int) (a1_2 : ByteArray) : Option (Int × Int × ByteArray × Int) :=
  (value_null.f k 1 [(⟨a0_0, a0_1, a0_2⟩ : S23), ⟨a1_0, a1_1, a1_2⟩]).bind fun p => if p.2 = true then some (0, 0, (⟨#[]⟩ : ByteArray), p.1) else if subOver a0_1 a1_1 = true then some (0, 0, (⟨#[]⟩ : ByteArray), 3) else some (1, wrap64 (a0_1 - a1_1), (⟨#[]⟩ : ByteArray), 0)
theorem value_Sub.mono : ∀ a0 a1 a2 a3 a4 a5 k, LeO (value_Sub.f k a0 a1 a2 a3 a4 a5) (value_Sub.f (k + 1) a0 a1 a2 a3 a4 a5) := by
  intro a0 a1 a2 a3 a4 a5 k
  unfold value_Sub.f
  exact LeO.bind (value_null.mono _ _ _) (fun _ => LeO.refl _)
set_option maxHeartbeats 2000000 in
theorem value_Sub.calls (k : Nat) (a0_0 : Int) (a0_1 : Int) (a0_2 : ByteArray) (a1_0 : Int) (a1_1 : Int) (a1_2 : ByteArray) (r1 : Int) (r2 : Int) (r3 : ByteArray) (r4 : Int) (w : World) (h : value_Sub.f k a0_0 a0_1 a0_2 a1_0 a1_1 a1_2 = some (r1, r2, r3, r4)) :
    Calls Try.prog 28 #[.agg #[.int .i64 a0_0, .int .i64 a0_1, .string a0_2], .agg #[.int .i64 a1_0, .int .i64 a1_1, .string a1_2]] w fun e w' => e = .returned (.tuple #[.agg #[.int .i64 r1, .int .i64 r2, .string r3], .int .i64 r4]) ∧ Below w.heap.size w w' := by
  have hu := Try.underlying23
  unfold value_Sub.f at h
  obtain ⟨⟨e0, ok⟩, hN, H⟩ := Option.bind_eq_some_iff.mp h
  clear h
  have HN := Aside0.mk hN
  have HH := Aside0.mk H
  clear hN H
  go_enter Try.func28, Try.ntmps28
  go_wp2_with (first | (go_at_call 40; refine (value_null.calls k 1 _ _ [(⟨a0_0, a0_1, a0_2⟩ : S23), ⟨a1_0, a1_1, a1_2⟩] e0 ok _ (two_vals _ _ _ _ ?hh) (Nat.le_refl 2) HN.out).mono ?_; (case hh => exact heap_new_ _ _ (by simp)); rintro e w1 ⟨rfl, hb⟩; obtain ⟨hc, hf⟩ := bcell_ hb; have HZ := hb.size; simp at HZ; have HB : Aside0 (Below w.heap.size w w1) := Aside0.mk (below_step (by repeat (first | exact Below.refl _ _ | apply below_alloc)) hb); clear hb) | (go_at_call 45; refine (value_number.calls (wrap64 (a0_1 - a1_1)) 1 (wrap64 (a0_1 - a1_1)) (⟨#[]⟩ : ByteArray) _ rfl).mono ?_; rintro e w2 ⟨rfl, hb2⟩; obtain ⟨hc2, hf2⟩ := bcell_ hb2; have q2 := fun o => hc2 (w.heap.size + 1 + 1) o (by omega); have q2f := fun o => hf2 (w.heap.size + 1 + 1) o (by omega); have HZ2 := hb2.size; have HB2 : Aside0 (Below w.heap.size w w2) := Aside0.mk (below_step HB.out hb2); clear HB hb2 hc2 hf2; have HB := HB2; clear HB2))
  all_goals have H := HH.out
  · have h1 : ok = true := by assumption
    subst h1
    simp only [if_pos, Option.some.injEq, Prod.mk.injEq] at H
    obtain ⟨rfl, rfl, rfl, rfl⟩ := H
    refine bodyPost_ret (v := .tuple #[.agg #[.int .i64 0, .int .i64 0, .string (⟨#[]⟩ : ByteArray)], .int .i64 e0]) (by simp [results, Try.results28, go_sem, hc, hf]) rfl ⟨rfl, (by repeat (first | exact Aside0.out (by assumption) | refine below_set ?_ (by omega) | apply below_alloc))⟩
  · have h1 : ok = false := by assumption
    have h2 : Go.bits .and .i64 (Go.bits .xor .i64 a0_1 a1_1) (Go.bits .xor .i64 a0_1 (wrap64 (a0_1 - a1_1))) < 0 := by assumption
    have o : subOver a0_1 a1_1 = true := by unfold subOver; exact decide_eq_true h2
    subst h1
    simp only [Bool.false_eq_true, if_false, o, if_true, Option.some.injEq, Prod.mk.injEq] at H
    obtain ⟨rfl, rfl, rfl, rfl⟩ := H
    refine bodyPost_ret (v := .tuple #[.agg #[.int .i64 0, .int .i64 0, .string (⟨#[]⟩ : ByteArray)], .int .i64 3]) (by simp [results, Try.results28, go_sem, hc, hf]) rfl ⟨rfl, (by repeat (first | exact Aside0.out (by assumption) | refine below_set ?_ (by omega) | apply below_alloc))⟩
  · have h1 : ok = false := by assumption
    have h2 : 0 ≤ Go.bits .and .i64 (Go.bits .xor .i64 a0_1 a1_1) (Go.bits .xor .i64 a0_1 (wrap64 (a0_1 - a1_1))) := by assumption
    have o : subOver a0_1 a1_1 = false := by unfold subOver; exact decide_eq_false (by omega)
    subst h1
    simp only [Bool.false_eq_true, if_false, o, Option.some.injEq, Prod.mk.injEq] at H
    obtain ⟨rfl, rfl, rfl, rfl⟩ := H
    refine bodyPost_ret (v := .tuple #[.agg #[.int .i64 1, .int .i64 (wrap64 (a0_1 - a1_1)), .string (⟨#[]⟩ : ByteArray)], .int .i64 0]) (by simp [results, Try.results28, go_sem, q2, q2f, hc, hf]) rfl ⟨rfl, (by repeat (first | exact Aside0.out (by assumption) | refine below_set ?_ (by omega) | apply below_alloc))⟩

end Go.Proofs.Ytihfljdcmncicaa.QValueRest
