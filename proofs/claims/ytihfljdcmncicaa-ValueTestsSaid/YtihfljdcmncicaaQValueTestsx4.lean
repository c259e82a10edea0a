-- Written by wip/tools/myprint.py of this project (the kit's printer with lines replaced in memory, and texts of ours)
import Derived.Test.YtihfljdcmncicaaQValueTestsx0
import Derived.Test.YtihfljdcmncicaaQValueTestsx3
namespace Go.Proofs.Ytihfljdcmncicaa.QValueTests
open Go.RowKit Go.Proofs.YtihfljdcmncicaaW.PrintWords Go.Proofs.YtihfljdcmncicaaW.PrintLast Go.Proofs.YtihfljdcmncicaaW.PrintMore
attribute [local go_sem] max2_int min2_int max_two min_two max_three min_three max_four min_four   -- for this text's walks alone
set_option linter.unusedVariables false
set_option linter.unusedSimpArgs false

/-! ### value_Add: function 29 -/
theorem two_vals (W : World) (g : Nat) (x y : S23) (h : W.heap[g]? = some (.cells #[.int .i64 x.f0, .int .i64 x.f1, .string x.f2, .int .i64 y.f0, .int .i64 y.f1, .string y.f2] 23 (0, 0))) : Kd.C k23 W (some ⟨g, 0, none⟩) 2 [x, y] := by
  have hc : ∀ i, W.cell? ⟨g, i, none⟩ = #[Value.int .i64 x.f0, .int .i64 x.f1, .string x.f2, .int .i64 y.f0, .int .i64 y.f1, .string y.f2][i]? := fun i => by simp [World.cell?, h]
  refine ⟨rfl, by decide, fun _ => ⟨_, rfl, fun j p hj => ?_⟩⟩
  match j, hj with
  | 0, hj =>
    obtain rfl := Option.some.inj hj
    refine ⟨_, rfl, k23_mk W x, fun i u hu => ?_⟩
    match i, hu with
    | 0, hu => exact (hc 0).trans hu
    | 1, hu => exact (hc 1).trans hu
    | 2, hu => exact (hc 2).trans hu
    | i + 3, hu => simp at hu
  | 1, hj =>
    obtain rfl := Option.some.inj hj
    refine ⟨_, rfl, k23_mk W y, fun i u hu => ?_⟩
    match i, hu with
    | 0, hu => exact (hc 3).trans hu
    | 1, hu => exact (hc 4).trans hu
    | 2, hu => exact (hc 5).trans hu
    | i + 3, hu => simp at hu
  | j + 2, hj => simp at hj
theorem bcell_ {W w1 : World} (hb : Below W.heap.size W w1) : (∀ b o, b < W.heap.size → w1.cell? ⟨b, o, none⟩ = W.cell? ⟨b, o, none⟩) ∧ (∀ b o, b < W.heap.size → w1.frozen? ⟨b, o, none⟩ = W.frozen? ⟨b, o, none⟩) :=
  ⟨fun b o h => hb.cell (p := ⟨b, o, none⟩) h, fun b o h => hb.frozen (p := ⟨b, o, none⟩) h⟩
theorem heap_new_ (W : World) (o : Obj) {n : Nat} (h : n = W.heap.size) : (W.alloc o).heap[n]? = some o := by subst h; exact (Go.MapKept.heap_alloc W o).1
theorem one_val (W : World) (g : Nat) (x : S23) (h : W.heap[g]? = some (.cells #[.int .i64 x.f0, .int .i64 x.f1, .string x.f2] 23 (0, 0))) : Kd.C k23 W (some ⟨g, 0, none⟩) 1 [x] := by
  have hc : ∀ i, W.cell? ⟨g, i, none⟩ = #[Value.int .i64 x.f0, .int .i64 x.f1, .string x.f2][i]? := fun i => by simp [World.cell?, h]
  refine ⟨rfl, by decide, fun _ => ⟨_, rfl, fun j p hj => ?_⟩⟩
  match j, hj with
  | 0, hj =>
    obtain rfl := Option.some.inj hj
    refine ⟨_, rfl, k23_mk W x, fun i u hu => ?_⟩
    match i, hu with
    | 0, hu => exact (hc 0).trans hu
    | 1, hu => exact (hc 1).trans hu
    | 2, hu => exact (hc 2).trans hu
    | i + 3, hu => simp at hu
  | j + 1, hj => simp at hj
def bi (b : Bool) : Int := if b = true then 1 else 0
def addOver (a b : Int) : Bool := decide (Go.bits .and .i64 (Go.bits .xor .i64 a (wrap64 (a + b))) (Go.bits .xor .i64 b (wrap64 (a + b))) < 0)
def value_Add.f (k : Nat) (a0_0 : Int) (a0_1 : Int) (a0_2 : ByteArray) (a1_0 : Int) (a1_1 : Int) (a1_2 : ByteArray) : Option (Int × Int × ByteArray × Int) :=
  (value_null.f k 1 [(⟨a0_0, a0_1, a0_2⟩ : S23), ⟨a1_0, a1_1, a1_2⟩]).bind fun p => if p.2 = true then some (0, 0, (⟨#[]⟩ : ByteArray), p.1) else if addOver a0_1 a1_1 = true then some (0, 0, (⟨#[]⟩ : ByteArray), 3) else some (1, wrap64 (a0_1 + a1_1), (⟨#[]⟩ : ByteArray), 0)
theorem value_Add.mono : ∀ a0 a1 a2 a3 a4 a5 k, LeO (value_Add.f k a0 a1 a2 a3 a4 a5) (value_Add.f (k + 1) a0 a1 a2 a3 a4 a5) := by
  intro a0 a1 a2 a3 a4 a5 k
  unfold value_Add.f
  exact LeO.bind (value_null.mono _ _ _) (fun _ => LeO.refl _)
set_option maxHeartbeats 2000000 in
theorem value_Add.calls (k : Nat) (a0_0 : Int) (a0_1 : Int) (a0_2 : ByteArray) (a1_0 : Int) (a1_1 : Int) (a1_2 : ByteArray) (r1 : Int) (r2 : Int) (r3 : ByteArray) (r4 : Int) (w : World) (h : value_Add.f k a0_0 a0_1 a0_2 a1_0 a1_1 a1_2 = some (r1, r2, r3, r4)) :
    Calls Try.prog 29 #[.agg #[.int .i64 a0_0, .int .i64 a0_1, .string a0_2], .agg #[.int .i64 a1_0, .int .i64 a1_1, .string a1_2]] w fun e w' => e = .returned (.tuple #[.agg #[.int .i64 r1, .int .i64 r2, .string r3], .int .i64 r4]) ∧ Below w.heap.size w w' := by
  have hu := Try.underlying23
  unfold value_Add.f at h
  obtain ⟨⟨e0, ok⟩, hN, H⟩ := Option.bind_eq_some_iff.mp h
  clear h
  have HN := Aside0.mk hN
  have HH := Aside0.mk H
  clear hN H
  go_enter Try.func29, Try.ntmps29
  go_wp2_with (first | (go_at_call 40; refine (value_null.calls k 1 _ _ [(⟨a0_0, a0_1, a0_2⟩ : S23), ⟨a1_0, a1_1, a1_2⟩] e0 ok _ (two_vals _ _ _ _ ?hh) (Nat.le_refl 2) HN.out).mono ?_; (case hh => exact heap_new_ _ _ (by simp)); rintro e w1 ⟨rfl, hb⟩; obtain ⟨hc, hf⟩ := bcell_ hb; have HZ := hb.size; simp at HZ; have HB : Aside0 (Below w.heap.size w w1) := Aside0.mk (below_step (by repeat (first | exact Below.refl _ _ | apply below_alloc)) hb); clear hb) | (go_at_call 45; refine (value_number.calls (wrap64 (a0_1 + a1_1)) 1 (wrap64 (a0_1 + a1_1)) (⟨#[]⟩ : ByteArray) _ rfl).mono ?_; rintro e w2 ⟨rfl, hb2⟩; obtain ⟨hc2, hf2⟩ := bcell_ hb2; have q2 := fun o => hc2 (w.heap.size + 1 + 1) o (by omega); have q2f := fun o => hf2 (w.heap.size + 1 + 1) o (by omega); have HZ2 := hb2.size; have HB2 : Aside0 (Below w.heap.size w w2) := Aside0.mk (below_step HB.out hb2); clear HB hb2 hc2 hf2; have HB := HB2; clear HB2))
  all_goals have H := HH.out
  · have h1 : ok = true := by assumption
    subst h1
    simp only [if_pos, Option.some.injEq, Prod.mk.injEq] at H
    obtain ⟨rfl, rfl, rfl, rfl⟩ := H
    refine bodyPost_ret (v := .tuple #[.agg #[.int .i64 0, .int .i64 0, .string (⟨#[]⟩ : ByteArray)], .int .i64 e0]) (by simp [results, Try.results29, go_sem, hc, hf]) rfl ⟨rfl, (by repeat (first | exact Aside0.out (by assumption) | refine below_set ?_ (by omega) | apply below_alloc))⟩
  · have h1 : ok = false := by assumption
    have h2 : Go.bits .and .i64 (Go.bits .xor .i64 a0_1 (wrap64 (a0_1 + a1_1))) (Go.bits .xor .i64 a1_1 (wrap64 (a0_1 + a1_1))) < 0 := by assumption
    have o : addOver a0_1 a1_1 = true := by unfold addOver; exact decide_eq_true h2
    subst h1
    simp only [Bool.false_eq_true, if_false, o, if_true, Option.some.injEq, Prod.mk.injEq] at H
    obtain ⟨rfl, rfl, rfl, rfl⟩ := H
    refine bodyPost_ret (v := .tuple #[.agg #[.int .i64 0, .int .i64 0, .string (⟨#[]⟩ : ByteArray)], .int .i64 3]) (by simp [results, Try.results29, go_sem, hc, hf]) rfl ⟨rfl, (by repeat (first | exact Aside0.out (by assumption) | refine below_set ?_ (by omega) | apply below_alloc))⟩
  · have h1 : ok = false := by assumption
    have h2 : 0 ≤ Go.bits .and .i64 (Go.bits .xor .i64 a0_1 (wrap64 (a0_1 + a1_1))) (Go.bits .xor .i64 a1_1 (wrap64 (a0_1 + a1_1))) := by assumption
    have o : addOver a0_1 a1_1 = false := by unfold addOver; exact decide_eq_false (by omega)
    subst h1
    simp only [Bool.false_eq_true, if_false, o, Option.some.injEq, Prod.mk.injEq] at H
    obtain ⟨rfl, rfl, rfl, rfl⟩ := H
    refine bodyPost_ret (v := .tuple #[.agg #[.int .i64 1, .int .i64 (wrap64 (a0_1 + a1_1)), .string (⟨#[]⟩ : ByteArray)], .int .i64 0]) (by simp [results, Try.results29, go_sem, q2, q2f, hc, hf]) rfl ⟨rfl, (by repeat (first | exact Aside0.out (by assumption) | refine below_set ?_ (by omega) | apply below_alloc))⟩

end Go.Proofs.Ytihfljdcmncicaa.QValueTests
