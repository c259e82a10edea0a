import Derived.Test.YtkogfjphpklioaaStY
import Derived.Test.YtkogfjphpklioaaStU
/- Store: walks by hand; the conditions stand in each theorem. -/
namespace Go.Proofs.Ytkogfjphpklioaa.QStoreNames
open Go.RowKit Go.Proofs.YtkogfjphpklioaaW.PrintWords Go.Proofs.YtkogfjphpklioaaW.PrintLast Go.Proofs.YtkogfjphpklioaaW.PrintMore
attribute [local go_sem] max2_int min2_int max_two min_two max_three min_three max_four min_four
set_option linter.unusedVariables false
set_option linter.unusedSimpArgs false
open Go.Maps
/- A map of texts to lists of rows: the value itself is what is told (the held datum). -/
def rdV (v : Value) : Option (DataW Value × List MemPlace) := some (.held v, [])
def MapV (w : World) (B n : Nat) (f : ByteArray → Option Value) : Prop :=
  ∃ D : DataW Value, w.ownsMap Try.prog 9 rdV B n D ∧ ∀ s : ByteArray, Maps.has D (.string s.data.toList) = (f s).isSome ∧ D.atKey (.string s.data.toList) (.held (.slice none 0 0)) = .held ((f s).getD (.slice none 0 0))
theorem mapv_new (w : World) : MapV (w.alloc (.map #[] 0)) w.heap.size 0 (fun _ => none) :=
  ⟨_, World.ownsMap_made w Try.prog 9 _, fun s => ⟨rfl, rfl⟩⟩
theorem mapv_far {w w2 : World} {B n : Nat} {f : ByteArray → Option Value} (h : MapV w B n f) (hb : w2.heap[B]? = w.heap[B]?) : MapV w2 B n f := by
  obtain ⟨D, ⟨es, clock, h1, h2⟩, h3⟩ := h
  exact ⟨D, ⟨es, clock, hb.trans h1, h2⟩, h3⟩
theorem mapv_lt {w : World} {B n : Nat} {f : ByteArray → Option Value} (h : MapV w B n f) : B < w.heap.size := by
  obtain ⟨D, ho, _⟩ := h
  exact ho.lt
theorem zero52 (w : World) : (zeroValue 52).run Try.prog w = .ok (.slice none 0 0) w := by kernel_rfl
theorem mapv_ok {w : World} {B n : Nat} {f : ByteArray → Option Value} (h : MapV w B n f) (s : ByteArray) (hs : s.size ≤ maxLen) :
    (Instr.lookup 64 (.map (some B)) (.string s) true).run Try.prog w = .ok (.tuple #[(f s).getD (.slice none 0 0), .bool (f s).isSome]) w := by
  obtain ⟨D, ho, hf⟩ := h
  obtain ⟨v, ps, hr, hv⟩ := ho.look_ok map_law Try.underlying64 (zero52 w) rfl (WideMaps.keyOf_string_mk (P := Try.prog) Try.underlying9 hs)
  rw [(hf s).2] at hv
  simp only [rdV, Option.some.injEq, Prod.mk.injEq, DataW.held.injEq] at hv
  rw [hr, (hf s).1, hv.1]
theorem mapv_put {w : World} {B n : Nat} {f : ByteArray → Option Value} (h : MapV w B n f) (hn : n < maxLen) (s : ByteArray) (hs : s.size ≤ maxLen) (v : Value) :
    ∃ w', (Instr.mapUpdate 64 (.map (some B)) (.string s) v).run Try.prog w = .ok () w' ∧ MapV w' B (n + 1) (fun t => if t = s then some v else f t) ∧ w.mapTurned w' B := by
  obtain ⟨D, ho, hf⟩ := h
  have hkey := WideMaps.keyOf_string_mk (P := Try.prog) Try.underlying9 hs
  obtain ⟨w', hr, hown, hg⟩ := ho.store map_law Try.underlying64 hn hkey (val := v) (d := .held v) (ps := []) rfl
  refine ⟨w', hr, ⟨_, hown, fun t => ?_⟩, hg⟩
  by_cases e : t.data.toList = s.data.toList
  · have e2 : t = s := ByteArray.ext (Array.toList_inj.1 e)
    subst e2
    refine ⟨?_, ?_⟩
    · rw [has_put_same ho.isMap (k := .string t.data.toList) trivial]
      simp
    · rw [atKey_put_same (k := .string t.data.toList) ho.isMap trivial]
      simp
  · have e2 : ¬ t = s := fun h => e (by rw [h])
    refine ⟨?_, ?_⟩
    · rw [has_put_other (str_ne e), (hf t).1]
      simp [e2]
    · rw [atKey_put_other (str_ne e), (hf t).2]
      simp [e2]
/- What stays, but for the store's block g and the map's block. -/
structure Kp (w w' : World) (g : Nat) (ob : Option Nat) : Prop where
  os : w'.os = w.os
  tape : w'.tape = w.tape
  output : w'.output = w.output
  size : w.heap.size ≤ w'.heap.size
  far : ∀ j, j < w.heap.size → j ≠ g → some j ≠ ob → w'.heap[j]? = w.heap[j]?
def updV (f : ByteArray → Option Value) (s : ByteArray) (v : Value) : ByteArray → Option Value := fun t => if t = s then some v else f t
theorem eqm_nil0 (w : World) : (binOp .eql 64 (.map none) (.map none)).run Try.prog w = .ok (.bool true) w := by kernel_rfl
theorem eqm_nil1 (w : World) (B : Nat) : (binOp .eql 64 (.map (some B)) (.map none)).run Try.prog w = .ok (.bool false) w := by kernel_rfl
set_option maxRecDepth 8000 in
set_option maxHeartbeats 4000000 in
theorem put_nil (g : Nat) (a : Value) (s : ByteArray) (v : Value) (w : World) (hg : w.heap[g]? = some (.cells #[a, .map none] 68 (0, 0))) (hs : s.size ≤ maxLen) :
    Calls Try.prog 37 #[.pointer (some ⟨g, 1, none⟩), .string s, v] w fun e w' => e = .returned (.tuple #[]) ∧ (∃ B, w'.heap[g]? = some (.cells #[a, .map (some B)] 68 (0, 0)) ∧ B ≠ g ∧ w.heap.size ≤ B ∧ MapV w' B 1 (updV (fun _ => none) s v)) ∧ Kp w w' g none := by
  have HG := Aside0.mk hg
  have hc1 := (blk_cell hg 1).trans rfl
  have hf1 := blk_frozen hg 1
  have hlt := blk_lt hg
  have hm0 := mapv_far (w2 := (w.alloc (.map #[] 0)).setCell ⟨g, 1, none⟩ (.map (some w.heap.size))) (mapv_new w) (Below.heap_setCell _ _ _ _ (Nat.ne_of_gt hlt))
  obtain ⟨w', hr, hm, ht⟩ := mapv_put hm0 (by decide) s hs v
  have he := eqm_nil0
  have hmk : (Instr.makeMap 64 none).run Try.prog w = .ok (.map (some w.heap.size)) (w.alloc (.map #[] 0)) := rfl
  have hc2 : ((w.alloc (.map #[] 0)).setCell ⟨g, 1, none⟩ (.map (some w.heap.size))).cell? ⟨g, 1, none⟩ = some (.map (some w.heap.size)) := (blk_cell (blk_set (((below_alloc (Below.refl w.heap.size w) (.map #[] 0)).block g hlt).trans hg) 1 _) 1).trans rfl
  have hend : (w'.heap[g]? = some (.cells #[a, .map (some w.heap.size)] 68 (0, 0))) ∧ Kp w w' g none := by
    have h0 : (w.alloc (.map #[] 0)).heap[g]? = some (.cells #[a, .map none] 68 (0, 0)) := ((below_alloc (Below.refl w.heap.size w) (.map #[] 0)).block g hlt).trans hg
    have h1 := (blk_set h0 1 (.map (some w.heap.size))).trans rfl
    have hgr := ht.grown
    have hsz : ((w.alloc (.map #[] 0)).setCell ⟨g, 1, none⟩ (.map (some w.heap.size))).heap.size = w.heap.size + 1 := by simp
    have hs2 := hgr.size
    refine ⟨(hgr.block g (by omega) (fun e => by injection e; omega)).trans h1, hgr.os, hgr.tape, hgr.output, by omega, fun j hj hne _ => ?_⟩
    exact (hgr.block j (by omega) (fun e => by injection e; omega)).trans ((Below.heap_setCell _ ⟨g, 1, none⟩ _ j hne).trans (Below.heap_alloc w _ j hj))
  have HE := Aside0.mk hend
  have hcm : ((w.alloc (.map #[] 0)).setCell ⟨g, 1, none⟩ (.map (some w.heap.size))) = ((w.setCell ⟨g, 1, none⟩ (.map (some w.heap.size))).alloc (.map #[] 0)) := by first | (go_simp; done) | simp
  rw [hcm] at hr
  rw [hcm] at hc2
  have HM := Aside0.mk hm
  clear hend ht hm0 hm hcm hg
  go_enter Try.func37, Try.ntmps37
  go_wp2
  first | go_end0 | (simp only [Exit.inBlock, Exit.then]; refine bodyPost_ret (results_none rfl _ _ _) rfl ?_) | refine bodyPost_ret (results_none rfl _ _ _) rfl ?_
  exact ⟨rfl, ⟨_, HE.out.1, Nat.ne_of_gt hlt, Nat.le_refl _, HM.out⟩, HE.out.2⟩
set_option maxRecDepth 8000 in
set_option maxHeartbeats 4000000 in
theorem put_some (g B n : Nat) (a : Value) (s : ByteArray) (v : Value) (f : ByteArray → Option Value) (w : World) (hg : w.heap[g]? = some (.cells #[a, .map (some B)] 68 (0, 0))) (hm : MapV w B n f) (hn : n < maxLen) (hs : s.size ≤ maxLen) :
    Calls Try.prog 37 #[.pointer (some ⟨g, 1, none⟩), .string s, v] w fun e w' => e = .returned (.tuple #[]) ∧ (w'.heap[g]? = some (.cells #[a, .map (some B)] 68 (0, 0)) ∧ MapV w' B (n + 1) (updV f s v)) ∧ Kp w w' g (some B) := by
  have hc1 := (blk_cell hg 1).trans rfl
  have hlt := blk_lt hg
  have hne : g ≠ B := by
    rintro rfl
    obtain ⟨D, ⟨es, clock, h1, _⟩, _⟩ := hm
    rw [hg] at h1
    cases h1
  obtain ⟨w', hr, hm2, ht⟩ := mapv_put hm hn s hs v
  have hgr := ht.grown
  have HE : Aside0 ((w'.heap[g]? = some (.cells #[a, .map (some B)] 68 (0, 0)) ∧ MapV w' B (n + 1) (updV f s v)) ∧ Kp w w' g (some B)) := ⟨⟨(hgr.block g hlt (fun e => hne (by injection e))).trans hg, hm2⟩, hgr.os, hgr.tape, hgr.output, hgr.size, fun j hj _ h3 => hgr.block j hj h3⟩
  have he := eqm_nil1
  clear hg hm ht hgr hm2
  go_enter Try.func37, Try.ntmps37
  go_wp2
  first | go_end0 | (simp only [Exit.inBlock, Exit.then]; refine bodyPost_ret (results_none rfl _ _ _) rfl ?_) | refine bodyPost_ret (results_none rfl _ _ _) rfl ?_
  exact ⟨rfl, HE.out.1, HE.out.2⟩
set_option maxRecDepth 8000 in
set_option maxHeartbeats 4000000 in
theorem get_none (g : Nat) (a : Value) (s : ByteArray) (w : World) (hg : w.heap[g]? = some (.cells #[a, .map none] 68 (0, 0))) (hs : s.size ≤ maxLen) :
    Calls Try.prog 39 #[.pointer (some ⟨g, 1, none⟩), .string s] w fun e w' => e = .returned (.tuple #[.slice none 0 0, .bool false]) ∧ w' = w := by
  have hc1 := (blk_cell hg 1).trans rfl
  have hlk : (Instr.lookup 64 (.map none) (.string s) true).run Try.prog w = .ok (.tuple #[.slice none 0 0, .bool false]) w := by kernel_rfl
  clear hg
  go_enter Try.func39, Try.ntmps39
  go_wp2
  refine bodyPost_ret (v := .tuple #[.slice none 0 0, .bool false]) (by simp [results, Try.results39, go_sem]) rfl ⟨rfl, rfl⟩
set_option maxRecDepth 8000 in
set_option maxHeartbeats 4000000 in
theorem get_some (g B n : Nat) (a : Value) (s : ByteArray) (f : ByteArray → Option Value) (w : World) (hg : w.heap[g]? = some (.cells #[a, .map (some B)] 68 (0, 0))) (hm : MapV w B n f) (hs : s.size ≤ maxLen) :
    Calls Try.prog 39 #[.pointer (some ⟨g, 1, none⟩), .string s] w fun e w' => e = .returned (.tuple #[(f s).getD (.slice none 0 0), .bool (f s).isSome]) ∧ w' = w := by
  have hc1 := (blk_cell hg 1).trans rfl
  have hlk := mapv_ok hm s hs
  clear hg hm
  generalize (f s).getD (.slice none 0 0) = x at *
  generalize (f s).isSome = y at *
  go_enter Try.func39, Try.ntmps39
  go_wp2
  refine bodyPost_ret (v := .tuple #[x, .bool y]) (by simp [results, Try.results39, go_sem]) rfl ⟨rfl, rfl⟩

end Go.Proofs.Ytkogfjphpklioaa.QStoreNames
