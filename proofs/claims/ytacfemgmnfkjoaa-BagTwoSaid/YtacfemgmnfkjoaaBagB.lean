import Derived.Test.YtacfemgmnfkjoaaBagA
/- Bag: walks of the bag's functions, by hand; the conditions stand in each theorem. -/
namespace Go.Proofs.Ytacfemgmnfkjoaa.QBag
open Go.RowKit Go.Proofs.YtacfemgmnfkjoaaW.PrintWords Go.Proofs.YtacfemgmnfkjoaaW.PrintLast Go.Proofs.YtacfemgmnfkjoaaW.PrintMore
attribute [local go_sem] max2_int min2_int max_two min_two max_three min_three max_four min_four
set_option linter.unusedVariables false
set_option linter.unusedSimpArgs false
theorem map_put {w : World} {B n : Nat} {f : ByteArray → Option Int} (h : MapAt w B n f) (hn : n < maxLen) (s : ByteArray) (hs : s.size ≤ maxLen) (x : Int) (hx : (Lit.int .i64 x).wf = true) :
    ∃ o2, (Instr.mapUpdate 44 (.map (some B)) (.string s) (.int .i64 x)).run Try.prog w = .ok () (Go.ChangeMaps.setBlock w B o2) ∧ MapAt (Go.ChangeMaps.setBlock w B o2) B (n + 1) (updF f s (some x)) := by
  obtain ⟨D, ho, hf⟩ := h
  have hkey := WideMaps.keyOf_string_mk (P := Try.prog) Try.underlying9 hs
  obtain ⟨w', hr, hown, ht⟩ := ho.store map_law Try.underlying44 hn hkey (plainElem_int Try.underlying3 hx)
  obtain ⟨es, clock, es', clock', hb, rfl⟩ := ht
  refine ⟨_, hr, D.put (.string s.data.toList) (.lit (.int .i64 x)), hown, fun t => ?_⟩
  have hm2 : Maps.IsMap D := ho.isMap
  have hkl : WideAt.IsKeyLit (.string s.data.toList) := by first | trivial | (unfold WideAt.IsKeyLit; trivial) | simp [WideAt.IsKeyLit]
  unfold updF
  by_cases c : t.data.toList = s.data.toList
  · rw [if_pos c, c]
    exact ⟨Maps.has_put_same hm2 hkl _, Maps.atKey_put_same hm2 hkl _ _⟩
  · rw [if_neg c]
    exact ⟨(Maps.has_put_other (str_ne c) _).trans (hf t).1, (Maps.atKey_put_other (str_ne c) _ _).trans (hf t).2⟩
theorem updF_same (f : ByteArray → Option Int) (s : ByteArray) (x : Option Int) : updF f s x s = x := by
  unfold updF
  rw [if_pos rfl]
theorem cnt_put {l l' : List ByteArray} {k : ByteArray} {x : Int} (hc : ∀ s, (l'.count s : Int) = l.count s + if s = k then x else 0) (h : (l.count k : Int) + x ≠ 0) : updF (cntF l) k (some ((l.count k : Int) + x)) = cntF l' := by
  funext s
  unfold updF cntF
  have h2 := hc s
  by_cases c : s = k
  · subst c
    rw [if_pos rfl] at h2 ⊢
    rw [if_neg (by omega), h2]
  · rw [if_neg (fun e => c (ba_eq.1 e))]
    rw [if_neg c, Int.add_zero] at h2
    have h3 : l'.count s = l.count s := by omega
    rw [h3]
theorem cnt_drop {l l' : List ByteArray} {k : ByteArray} {x : Int} (hc : ∀ s, (l'.count s : Int) = l.count s + if s = k then x else 0) (h : (l.count k : Int) + x = 0) (y : Option Int) : updF (updF (cntF l) k y) k none = cntF l' := by
  funext s
  have h2 := hc s
  by_cases c : s = k
  · subst c
    rw [updF_same]
    unfold cntF
    rw [if_pos rfl] at h2
    rw [if_pos (by omega)]
  · unfold updF cntF
    rw [if_neg (fun e => c (ba_eq.1 e)), if_neg (fun e => c (ba_eq.1 e))]
    rw [if_neg c, Int.add_zero] at h2
    have h3 : l'.count s = l.count s := by omega
    rw [h3]
theorem wf64 {a : Int} (h0 : -4611686018427387904 ≤ a) (h1 : a ≤ 4611686018427387904) : (Lit.int .i64 a).wf = true := by
  have e1 : IntKind.i64.min = -9223372036854775808 := by decide
  have e2 : IntKind.i64.max = 9223372036854775807 := by decide
  simp [Lit.wf]
  omega
theorem bag_New (W : World) :
    Calls Try.prog 21 #[] W fun e w' => ∃ g : Nat, e = .returned (.pointer (some ⟨g, 0, none⟩)) ∧ Bg w' (fun j => W.heap.size ≤ j) g 0 [] ∧ Below W.heap.size W w' := by
  go_enter Try.func21, Try.ntmps21
  go_wp2_with (first | ((with_reducible refine gate_dst (N := 2) rfl ?_); refine box_event ?hg (N := 2) ?hd (cs := #[.map none, .int .i64 0]) (t := 48) ?hr ?_; (case hd => rfl); (case hg => rfl); (case hr => first | (go_simp; done) | (go_simp; rfl)); intro g hg w4 hbox hb; have BK := Aside0.mk hbox; have HG := Aside0.mk hg; have HB := Aside0.mk hb; clear hbox hg hb))
  go_ret
  exact ⟨g, rfl, ⟨_, BK.out, Nat.le_of_eq HG.out.symm, .inl ⟨rfl, rfl⟩, by simp, Nat.le_refl _⟩, HB.out⟩
theorem bag_Len (W : World) (own : Nat → Prop) (g n : Nat) (l : List ByteArray) (h : Bg W own g n l) :
    Calls Try.prog 13 #[.pointer (some ⟨g, 0, none⟩)] W fun e w' => e = .returned (.int .i64 (l.length : Int)) ∧ w' = W := by
  obtain ⟨mv, h1, _⟩ := h
  have hc1 : W.cell? ⟨g, 1, none⟩ = some (.int .i64 (l.length : Int)) := (blk_cell h1 1).trans rfl
  clear h1
  go_enter Try.func13, Try.ntmps13
  go_wp2
  go_ret
  exact ⟨rfl, rfl⟩
theorem bag_Count (W : World) (own : Nat → Prop) (g n : Nat) (l : List ByteArray) (k : ByteArray) (h : Bg W own g n l) (hk : k.size ≤ maxLen) :
    Calls Try.prog 12 #[.pointer (some ⟨g, 0, none⟩), .string k] W fun e w' => e = .returned (.int .i64 (l.count k : Int)) ∧ w' = W := by
  obtain ⟨mv, h1, _, h3, _⟩ := h
  have hc0 : W.cell? ⟨g, 0, none⟩ = some mv := (blk_cell h1 0).trans rfl
  have hlook : (Instr.lookup 44 mv (.string k) false).run Try.prog W = .ok (.int .i64 (l.count k : Int)) W := by
    rcases h3 with ⟨rfl, rfl⟩ | ⟨B, rfl, hB, hne, hm⟩
    · exact Maps.look_nil false map_law Try.underlying44 (zero3 W) (WideMaps.keyOf_string_mk (P := Try.prog) Try.underlying9 hk)
    · rw [map_at hm k hk, cntF_getD]
  clear h1 h3
  go_enter Try.func12, Try.ntmps12
  go_wp2
  go_ret
  exact ⟨rfl, rfl⟩
theorem add_done {W W2 : World} {own : Nat → Prop} {g B n' : Nat} {v1 : Value} {all : Int} {l' : List ByteArray} (hall : all = (l'.length : Int)) (hg : own g) (hgl : g < W.heap.size) (hB : own B ∨ W.heap.size ≤ B) (hne : B ≠ g) (hbk : W2.heap[g]? = some (.cells #[.map (some B), v1] 48 (0, 0))) (hm : MapAt W2 B n' (cntF l')) (hs : W.heap.size ≤ W2.heap.size) (ho : W2.os = W.os) (ht : W2.tape = W.tape) (hou : W2.output = W.output) (hfar : ∀ j, j < W.heap.size → j ≠ g → j ≠ B → W2.heap[j]? = W.heap[j]?) (hl : ∀ s ∈ l', s.size ≤ maxLen) (hn : l'.length ≤ n') :
    Bg (W2.setCell ⟨g, 1, none⟩ (.int .i64 all)) (fun j => own j ∨ W.heap.size ≤ j) g n' l' ∧ Upd own W (W2.setCell ⟨g, 1, none⟩ (.int .i64 all)) := by
  subst hall
  refine ⟨⟨.map (some B), blk_set hbk 1 _, .inl hg, .inr ⟨B, rfl, hB, hne, map_far hm (Below.heap_setCell _ _ _ _ hne)⟩, hl, hn⟩, ho, ht, hou, by simpa using hs, fun j hj hn => ?_⟩
  have h1 : j ≠ g := fun e => hn (e ▸ hg)
  refine (Below.heap_setCell W2 ⟨g, 1, none⟩ _ j h1).trans (hfar j hj h1 (fun e => ?_))
  rcases hB with h | h
  · exact hn (e ▸ h)
  · omega

end Go.Proofs.Ytacfemgmnfkjoaa.QBag
