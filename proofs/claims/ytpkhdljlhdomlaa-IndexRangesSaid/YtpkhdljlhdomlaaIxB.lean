import Derived.Test.YtpkhdljlhdomlaaIxA
/- Index: walks by hand; the conditions stand in each theorem. -/
namespace Go.Proofs.Ytpkhdljlhdomlaa.QIndexFinds
open Go.RowKit Go.Proofs.YtpkhdljlhdomlaaW.PrintWords Go.Proofs.YtpkhdljlhdomlaaW.PrintLast Go.Proofs.YtpkhdljlhdomlaaW.PrintMore
attribute [local go_sem] max2_int min2_int max_two min_two max_three min_three max_four min_four
set_option linter.unusedVariables false
set_option linter.unusedSimpArgs false
open Go.Maps
instance : DecidableEq S24 := fun x y => decidable_of_iff (x.f0 = y.f0 ∧ x.f1 = y.f1 ∧ x.f2 = y.f2) ⟨fun h => s24_ext h.1 h.2.1 h.2.2, fun h => by subst h; exact ⟨rfl, rfl, rfl⟩⟩
theorem encV_inj {x y : S24} (h : encV x = encV y) : x = y := by
  unfold encV at h
  injection h with h
  simp only [Array.mk.injEq, List.cons.injEq, Value.int.injEq, true_and, Value.string.injEq, and_true] at h
  exact s24_ext h.1 h.2.1 h.2.2
theorem keyL_inj {x y : S24} (hx : okS x) (hy : okS y) (h : keyL x = keyL y) : x = y :=
  encV_inj (key_law.inj (key_of x hx) (h ▸ key_of y hy))
/- Whose a block is. -/
inductive Tg where
  | no | vs | ps | mp
  | key (k : S24)
def rdV (v : Value) : Option (DataW Value × List MemPlace) := some (.held v, [])
def MapV (w : World) (B n : Nat) (f : S24 → Option Value) : Prop :=
  ∃ D : DataW Value, w.ownsMap Try.prog 24 rdV B n D ∧ ∀ x : S24, okS x → Maps.has D (keyL x) = (f x).isSome ∧ D.atKey (keyL x) (.held (.slice none 0 0)) = .held ((f x).getD (.slice none 0 0))
theorem mapv_new (w : World) : MapV (w.alloc (.map #[] 0)) w.heap.size 0 (fun _ => none) :=
  ⟨_, World.ownsMap_made w Try.prog 24 _, fun s _ => ⟨rfl, rfl⟩⟩
theorem mapv_far {w w2 : World} {B n : Nat} {f : S24 → Option Value} (h : MapV w B n f) (hb : w2.heap[B]? = w.heap[B]?) : MapV w2 B n f := by
  obtain ⟨D, ⟨es, clock, h1, h2⟩, h3⟩ := h
  exact ⟨D, ⟨es, clock, hb.trans h1, h2⟩, h3⟩
theorem mapv_lt {w : World} {B n : Nat} {f : S24 → Option Value} (h : MapV w B n f) : B < w.heap.size := by
  obtain ⟨D, ho, _⟩ := h
  exact ho.lt
theorem mapv_mono {w : World} {B n n' : Nat} {f : S24 → Option Value} (h : MapV w B n f) (hn : n ≤ n') : MapV w B n' f := by
  obtain ⟨D, ho, hf⟩ := h
  exact ⟨D, ho.mono hn, hf⟩
theorem zero31 (w : World) : (zeroValue 31).run Try.prog w = .ok (.slice none 0 0) w := by kernel_rfl
theorem under42 : Try.prog.underlying 42 = some (.map 24 31) := by kernel_rfl
theorem mapv_look {w : World} {B n : Nat} {f : S24 → Option Value} (h : MapV w B n f) (x : S24) (hx : okS x) :
    (Instr.lookup 42 (.map (some B)) (encV x) false).run Try.prog w = .ok ((f x).getD (.slice none 0 0)) w := by
  obtain ⟨D, ho, hf⟩ := h
  obtain ⟨v, ps, hr, hv⟩ := ho.lookup key_law under42 (zero31 w) rfl (key_of x hx)
  rw [(hf x hx).2] at hv
  simp only [rdV, Option.some.injEq, Prod.mk.injEq, DataW.held.injEq] at hv
  rw [hr, hv.1]
def updV (f : S24 → Option Value) (x : S24) (v : Value) : S24 → Option Value := fun t => if t = x then some v else f t
theorem keyL_key (x : S24) : WideAt.IsKeyLit (keyL x) := trivial
theorem mapv_put {w : World} {B n : Nat} {f : S24 → Option Value} (h : MapV w B n f) (hn : n < maxLen) (x : S24) (hx : okS x) (v : Value) :
    ∃ w', (Instr.mapUpdate 42 (.map (some B)) (encV x) v).run Try.prog w = .ok () w' ∧ MapV w' B (n + 1) (updV f x v) ∧ w.mapTurned w' B := by
  obtain ⟨D, ho, hf⟩ := h
  have hkey := key_of x hx
  obtain ⟨w', hr, hown, hg⟩ := ho.store key_law under42 hn hkey (val := v) (d := .held v) (ps := []) rfl
  refine ⟨w', hr, ⟨_, hown, fun t ht => ?_⟩, hg⟩
  unfold updV
  by_cases e : t = x
  · subst e
    refine ⟨?_, ?_⟩
    · rw [has_put_same ho.isMap (keyL_key t), if_pos rfl]
      rfl
    · rw [atKey_put_same ho.isMap (keyL_key t), if_pos rfl]
      rfl
  · have e2 : keyL t ≠ keyL x := fun h => e (keyL_inj ht hx h)
    rw [if_neg e]
    refine ⟨?_, ?_⟩
    · rw [has_put_other e2, (hf t ht).1]
    · rw [atKey_put_other e2, (hf t ht).2]
abbrev kI : Kd Int := Kd.int .i64
/- The buckets: each key's places in memory of its own. -/
def KF (w : World) (b0 : Nat) (own : Nat → Tg) (f : S24 → Option Value) (F : S24 → List Int) : Prop :=
  ∀ k, (f k = none ∧ F k = []) ∨ ∃ v, f k = some v ∧ F k ≠ [] ∧ kI.R 3 w b0 (fun j => own j = .key k) v (F k)
theorem KF.move {w w' : World} {b0 : Nat} {own own' : Nat → Tg} {f : S24 → Option Value} {F : S24 → List Int} (h : KF w b0 own f F) (ho : ∀ j, j < w.heap.size → ∀ k, own j = .key k → own' j = .key k) (hm : ∀ j, j < w.heap.size → (∃ k, own j = .key k) → w'.heap[j]? = w.heap[j]?) : KF w' b0 own' f F := by
  intro k
  rcases h k with h | ⟨v, h1, h2, h3⟩
  · exact .inl h
  · refine .inr ⟨v, h1, h2, ?_⟩
    have h4 := Kd.R_bound h3
    have h5 : kI.R 3 w b0 (fun j => own j = .key k ∧ j < w.heap.size) v (F k) := Kd.R_mono h4 (fun j hj => ⟨hj.1, hj.2.2.1⟩)
    exact Kd.R_mono (Kd.R_step h5 (fun j hj _ => hm j hj.2 ⟨k, hj.1⟩)) (fun j hj => ho j hj.2 k hj.1)
structure Bks (w : World) (b0 B n : Nat) (own : Nat → Tg) (F : S24 → List Int) : Prop where
  out : ∃ f, MapV w B n f ∧ KF w b0 own f F
  tag : own B = .mp
theorem Bks.lt {w : World} {b0 B n : Nat} {own : Nat → Tg} {F : S24 → List Int} (h : Bks w b0 B n own F) : B < w.heap.size := by
  obtain ⟨⟨f, h1, _⟩, _⟩ := h
  exact mapv_lt h1
theorem Bks.move {w w' : World} {b0 B n : Nat} {own own' : Nat → Tg} {F : S24 → List Int} (h : Bks w b0 B n own F) (ho : ∀ j, j < w.heap.size → own' j = own j) (hm : ∀ j, j < w.heap.size → (own j = .mp ∨ ∃ k, own j = .key k) → w'.heap[j]? = w.heap[j]?) : Bks w' b0 B n own' F := by
  obtain ⟨⟨f, h1, h2⟩, h3⟩ := h
  have hlt := mapv_lt h1
  exact ⟨⟨f, mapv_far h1 (hm B hlt (.inl h3)), h2.move (fun j hj k hk => (ho j hj).trans hk) (fun j hj hk => hm j hj (.inr hk))⟩, (ho B hlt).trans h3⟩
/- What is turned, and what stays. -/
structure Kp (w w' : World) (T : Nat → Prop) : Prop where
  os : w'.os = w.os
  tape : w'.tape = w.tape
  output : w'.output = w.output
  size : w.heap.size ≤ w'.heap.size
  far : ∀ j, j < w.heap.size → ¬ T j → w'.heap[j]? = w.heap[j]?
theorem Kp.trans {a b c : World} {T U : Nat → Prop} (h : Kp a b T) (h' : Kp b c U) (hu : ∀ j, j < a.heap.size → U j → T j) : Kp a c T :=
  ⟨h'.os.trans h.os, h'.tape.trans h.tape, h'.output.trans h.output, Nat.le_trans h.size h'.size, fun j hj hn => (h'.far j (Nat.lt_of_lt_of_le hj h.size) (fun hu' => hn (hu j hj hu'))).trans (h.far j hj hn)⟩
theorem Kp.below {w w' : World} {T : Nat → Prop} (h : Below w.heap.size w w') : Kp w w' T := ⟨h.os, h.tape, h.output, h.size, fun j hj _ => h.block j hj⟩
theorem Kp.bel {w w' : World} {T : Nat → Prop} (h : Kp w w' T) {b : Nat} (hb : b ≤ w.heap.size) (ht : ∀ j, j < b → ¬ T j) : Below b w w' := ⟨h.os, h.tape, h.output, h.size, fun j hj => h.far j (Nat.lt_of_lt_of_le hj hb) (ht j hj)⟩

end Go.Proofs.Ytpkhdljlhdomlaa.QIndexFinds
