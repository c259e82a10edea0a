import Derived.Test.YtacfemgmnfkjoaaProg
import Derived.Below
import Derived.Deep.Draws
import Derived.Deep.AppendLies
import Derived.Maps.AppendAt
import Derived.OwnWalk
import Derived.Laws.BytesArg
import Derived.Laws.MakeOwn
import Derived.Laws.OwnMore
import Derived.Deep.OwnRows
import Derived.Tactics
import Derived.Lib.ConvBytes
import Derived.Laws.Slices
import Derived.WalkKit
import Derived.KernelRfl
import Derived.RowKit3
import Derived.Deep.LoopGhost
import Derived.Deep.QuietTactic
import Derived.BigQuiet
import Derived.WideLaws
import Derived.Deep.DeepCutAuto
import Derived.Deep.CutBlock
import Derived.Deep.RegionHeld3
import Derived.Laws.Rows
import Derived.Lib.AppendStr
import Derived.ArgAppend
import Derived.Laws.IdiomCopy
import Derived.OrdersHeld
import Derived.Laws.BitsLemmas
import Derived.RowKit
import Derived.Laws.Cover1
import Derived.Deep.RegionWith
import Derived.Test.YtacfemgmnfkjoaaWWords
import Derived.Test.YtacfemgmnfkjoaaWLast
import Derived.Test.YtacfemgmnfkjoaaWTab
import Derived.Test.YtacfemgmnfkjoaaWFour
import Derived.Test.YtacfemgmnfkjoaaWQPut
import Derived.Test.YtacfemgmnfkjoaaWApart
import Derived.Test.YtacfemgmnfkjoaaWArr
import Derived.Test.YtacfemgmnfkjoaaWZeros
import Derived.Test.YtacfemgmnfkjoaaWFoot
import Derived.Test.YtacfemgmnfkjoaaWKept
import Derived.Test.YtacfemgmnfkjoaaWShare
import Derived.Test.YtacfemgmnfkjoaaWN
import Derived.Test.YtacfemgmnfkjoaaWFootNe
import Derived.Test.YtacfemgmnfkjoaaWAt
import Derived.Test.YtacfemgmnfkjoaaWEqStruct
import Derived.Test.YtacfemgmnfkjoaaWRepsOne
import Derived.Test.YtacfemgmnfkjoaaWInv
import Derived.Test.YtacfemgmnfkjoaaWInvWords
import Derived.Test.YtacfemgmnfkjoaaWGuard
import Derived.Test.YtacfemgmnfkjoaaWNEv
import Derived.Test.YtacfemgmnfkjoaaWMore
import Derived.Test.YtacfemgmnfkjoaaBagK
import Derived.Maps.OwnSet
import Derived.WideKeyEntry
import Derived.Maps.Views
import Derived.Maps.RangeWalk
/- Bag: walks of the bag's functions, by hand; the conditions stand in each theorem. -/
namespace Go.Proofs.Ytacfemgmnfkjoaa.QBag
open Go.RowKit Go.Proofs.YtacfemgmnfkjoaaW.PrintWords Go.Proofs.YtacfemgmnfkjoaaW.PrintLast Go.Proofs.YtacfemgmnfkjoaaW.PrintMore
attribute [local go_sem] max2_int min2_int max_two min_two max_three min_three max_four min_four
set_option linter.unusedVariables false
set_option linter.unusedSimpArgs false
open Go.Maps
/- What is in the map: a function of texts. -/
def MapAt (w : World) (B n : Nat) (f : ByteArray → Option Int) : Prop :=
  ∃ D : DataW Unit, w.ownsMap Try.prog 9 (plainElem Try.prog 3) B n D ∧ ∀ s : ByteArray, Maps.has D (.string s.data.toList) = (f s).isSome ∧ D.atKey (.string s.data.toList) (.lit (.int .i64 0)) = .lit (.int .i64 ((f s).getD 0))
theorem map_law : Go.Maps.Keyed Try.prog 9 := Go.Maps.string_keyed Try.underlying9
theorem zero3 (w : World) : (zeroValue 3).run Try.prog w = .ok (.int .i64 0) w := by kernel_rfl
theorem map_new (w : World) : MapAt (w.alloc (.map #[] 0)) w.heap.size 0 (fun _ => none) :=
  ⟨_, World.ownsMap_made w Try.prog 9 _, fun s => ⟨rfl, rfl⟩⟩
theorem map_far {w w2 : World} {B n : Nat} {f : ByteArray → Option Int} (h : MapAt w B n f) (hb : w2.heap[B]? = w.heap[B]?) : MapAt w2 B n f := by
  obtain ⟨D, ⟨es, clock, h1, h2⟩, h3⟩ := h
  exact ⟨D, ⟨es, clock, hb.trans h1, h2⟩, h3⟩
theorem map_ok {w : World} {B n : Nat} {f : ByteArray → Option Int} (h : MapAt w B n f) (s : ByteArray) (hs : s.size ≤ maxLen) :
    (Instr.lookup 44 (.map (some B)) (.string s) true).run Try.prog w = .ok (.tuple #[.int .i64 ((f s).getD 0), .bool (f s).isSome]) w := by
  obtain ⟨D, ho, hf⟩ := h
  obtain ⟨v, ps, hr, hv⟩ := ho.look_ok map_law Try.underlying44 (zero3 w) (plainElem_int Try.underlying3 (by decide)) (WideMaps.keyOf_string_mk (P := Try.prog) Try.underlying9 hs)
  rw [(hf s).2] at hv
  obtain ⟨a, rfl, hz, _⟩ := plainElem_int_inv Try.underlying3 hv
  have := (Prod.mk.inj hz).1
  simp only [DataW.lit.injEq, Lit.int.injEq, true_and] at this
  rw [hr, (hf s).1, this]
theorem map_at {w : World} {B n : Nat} {f : ByteArray → Option Int} (h : MapAt w B n f) (s : ByteArray) (hs : s.size ≤ maxLen) :
    (Instr.lookup 44 (.map (some B)) (.string s) false).run Try.prog w = .ok (.int .i64 ((f s).getD 0)) w := by
  obtain ⟨D, ho, hf⟩ := h
  obtain ⟨c, hr, hat, _⟩ := ho.lookup_int map_law Try.underlying44 Try.underlying3 (zero3 w) (WideMaps.keyOf_string_mk (P := Try.prog) Try.underlying9 hs)
  have h2 := (hf s).2.symm.trans hat
  have : c = (f s).getD 0 := by simpa using h2.symm
  rw [hr, this]
def updF (f : ByteArray → Option Int) (s : ByteArray) (x : Option Int) : ByteArray → Option Int := fun t => if t.data.toList = s.data.toList then x else f t
theorem str_ne {s t : ByteArray} (h : ¬ t.data.toList = s.data.toList) : (Lit.string t.data.toList) ≠ Lit.string s.data.toList := fun e => h (by injection e)
theorem map_entry {w : World} {B n : Nat} {f : ByteArray → Option Int} (h : MapAt w B n f) (hn : n < maxLen) (s : ByteArray) (hs : s.size ≤ maxLen) :
    ∃ (v0 : Value) (st : Nat) (o1 : Obj), (Instr.mapEntry 44 (.map (some B)) (.string s)).run Try.prog w = .ok (.tuple #[v0, .int .i64 (st : Int)]) (Go.ChangeMaps.setBlock w B o1) ∧
      ∀ (w2 : World) (x : Int), (Lit.int .i64 x).wf = true → w2.heap[B]? = some o1 → ∃ o2, (Instr.entryStore 44 (.map (some B)) (.int .i64 (st : Int)) (.int .i64 x)).run Try.prog w2 = .ok () (Go.ChangeMaps.setBlock w2 B o2) ∧ MapAt (Go.ChangeMaps.setBlock w2 B o2) B (n + 1) (updF f s (some x)) := by
  obtain ⟨D, ho, hf⟩ := h
  have ho' := ho
  obtain ⟨es, clock, hb, F, _⟩ := ho
  have hkey := WideMaps.keyOf_string_mk (P := Try.prog) Try.underlying9 hs
  obtain ⟨v0, st, es1, clock1, hr, _, hnext⟩ := Go.WideElems.entry_then_store (Go.WideMaps.string_law Try.underlying9) Try.underlying44 (fun u => zero3 u) hb F hkey
  refine ⟨v0, st, .map es1 clock1, hr, fun w2 x hx hw2 => ?_⟩
  obtain ⟨es', clock', he, hm⟩ := hnext w2 (.int .i64 x) hw2
  obtain ⟨w', hr2, hown, _⟩ := ho'.store map_law Try.underlying44 hn hkey (plainElem_int Try.underlying3 hx)
  rw [hm] at hr2
  injection hr2 with _ hw'
  refine ⟨.map es' clock', he, D.put (.string s.data.toList) (.lit (.int .i64 x)), ?_, fun t => ?_⟩
  · rw [← hw'] at hown
    obtain ⟨a1, a2, a3, a4⟩ := hown
    refine ⟨a1, a2, ?_, a4⟩
    rw [Go.ChangeMaps.heap_setBlock_same hb] at a3
    rw [Go.ChangeMaps.heap_setBlock_same hw2]
    exact a3
  · have hm2 : Maps.IsMap D := ho'.isMap
    have hkl : WideAt.IsKeyLit (.string s.data.toList) := by first | trivial | (unfold WideAt.IsKeyLit; trivial) | simp [WideAt.IsKeyLit]
    unfold updF
    by_cases c : t.data.toList = s.data.toList
    · rw [if_pos c, c]
      exact ⟨Maps.has_put_same hm2 hkl _, Maps.atKey_put_same hm2 hkl _ _⟩
    · rw [if_neg c]
      exact ⟨(Maps.has_put_other (str_ne c) _).trans (hf t).1, (Maps.atKey_put_other (str_ne c) _ _).trans (hf t).2⟩
theorem map_drop {w : World} {B n : Nat} {f : ByteArray → Option Int} (h : MapAt w B n f) (s : ByteArray) (hs : s.size ≤ maxLen) (ty : TypeId) :
    ∃ o2, (Builtin.delete_ #[44, 9] ty #[.map (some B), .string s]).run Try.prog w = .ok (.tuple #[]) (Go.ChangeMaps.setBlock w B o2) ∧ MapAt (Go.ChangeMaps.setBlock w B o2) B n (updF f s none) := by
  obtain ⟨D, ho, hf⟩ := h
  have hkey := WideMaps.keyOf_string_mk (P := Try.prog) Try.underlying9 hs
  obtain ⟨w', hr, hown, ht⟩ := ho.drop map_law Try.underlying44 hkey ty
  obtain ⟨es, clock, es', clock', hb, rfl⟩ := ht
  refine ⟨_, hr, D.del (.string s.data.toList), hown, fun t => ?_⟩
  unfold updF
  by_cases c : t.data.toList = s.data.toList
  · rw [if_pos c, c]
    exact ⟨Maps.has_del_same, Maps.atKey_del_same _⟩
  · rw [if_neg c]
    exact ⟨(Maps.has_del_other (str_ne c)).trans (hf t).1, (Maps.atKey_del_other (str_ne c) _).trans (hf t).2⟩

instance lawfulBA : LawfulBEq ByteArray where
  eq_of_beq {a b} h := by
    cases a; cases b
    have := eq_of_beq (α := Array UInt8) h
    simpa using this
  rfl {a} := by
    cases a
    exact beq_self_eq_true (α := Array UInt8) _
theorem ba_eq {s t : ByteArray} : t.data.toList = s.data.toList ↔ t = s := by
  constructor
  · intro h
    cases s with
    | mk a => cases t with
      | mk b => simpa using h
  · rintro rfl
    rfl
/- What a bag's map holds: how often what is there. -/
def cntF (l : List ByteArray) : ByteArray → Option Int := fun s => if l.count s = 0 then none else some (l.count s : Int)
theorem cntF_getD (l : List ByteArray) (s : ByteArray) : (cntF l s).getD 0 = (l.count s : Int) := by
  unfold cntF
  split
  · simp [*]
  · rfl
/- A bag in memory: only the blocks of 'own' are its; n bounds what its map has held. -/
def Bg (w : World) (own : Nat → Prop) (g : Nat) (n : Nat) (l : List ByteArray) : Prop :=
  ∃ mv : Value, w.heap[g]? = some (.cells #[mv, .int .i64 (l.length : Int)] 48 (0, 0)) ∧ own g ∧ ((mv = .map none ∧ l = []) ∨ ∃ B, mv = .map (some B) ∧ own B ∧ B ≠ g ∧ MapAt w B n (cntF l)) ∧ (∀ s ∈ l, s.size ≤ maxLen) ∧ l.length ≤ n
structure Upd (own : Nat → Prop) (w w1 : World) : Prop where
  os : w1.os = w.os
  tape : w1.tape = w.tape
  output : w1.output = w.output
  size : w.heap.size ≤ w1.heap.size
  far : ∀ j, j < w.heap.size → ¬ own j → w1.heap[j]? = w.heap[j]?
theorem map_lt {w : World} {B n : Nat} {f : ByteArray → Option Int} (h : MapAt w B n f) : B < w.heap.size := by
  obtain ⟨D, ho, _⟩ := h
  exact ho.lt
theorem Bg.far {w w1 : World} {own own1 : Nat → Prop} {g n : Nat} {l : List ByteArray} (h : Bg w own g n l) (ho : ∀ j, own j → own1 j) (hf : ∀ j, own j → j < w.heap.size → w1.heap[j]? = w.heap[j]?) : Bg w1 own1 g n l := by
  obtain ⟨mv, h1, h2, h3, h4⟩ := h
  refine ⟨mv, (hf g h2 (blk_lt h1)).trans h1, ho _ h2, ?_, h4⟩
  rcases h3 with h3 | ⟨B, e, hB, hne, hm⟩
  · exact .inl h3
  · exact .inr ⟨B, e, ho _ hB, hne, map_far hm (hf B hB (map_lt hm))⟩
theorem Bg.bound {w : World} {own : Nat → Prop} {g n : Nat} {l : List ByteArray} (h : Bg w own g n l) : Bg w (fun j => own j ∧ j < w.heap.size) g n l := by
  obtain ⟨mv, h1, h2, h3, h4⟩ := h
  refine ⟨mv, h1, ⟨h2, blk_lt h1⟩, ?_, h4⟩
  rcases h3 with h3 | ⟨B, e, hB, hne, hm⟩
  · exact .inl h3
  · exact .inr ⟨B, e, ⟨hB, map_lt hm⟩, hne, hm⟩
theorem Bg.on {w w1 : World} {own : Nat → Prop} {g n : Nat} {l : List ByteArray} (h : Bg w own g n l) (hb : Below w.heap.size w w1) : Bg w1 own g n l := h.far (fun _ h => h) (fun j _ hlt => hb.block j hlt)
theorem Bg.by {w w1 : World} {own own2 : Nat → Prop} {g n : Nat} {l : List ByteArray} (h : Bg w own g n l) (hu : Upd own2 w w1) (ho : ∀ j, own j → j < w.heap.size → ¬ own2 j) : Bg w1 own g n l := h.far (fun _ h => h) (fun j hj hlt => hu.far j hlt (ho j hj hlt))
theorem Bg.mono {w : World} {own : Nat → Prop} {g n n' : Nat} {l : List ByteArray} (h : Bg w own g n l) (hn : n ≤ n') : Bg w own g n' l := by
  obtain ⟨mv, h1, h2, h3, h4, h5⟩ := h
  refine ⟨mv, h1, h2, ?_, h4, Nat.le_trans h5 hn⟩
  rcases h3 with h3 | ⟨B, e, hB, hne, D, hm, hD⟩
  · exact .inl h3
  · exact .inr ⟨B, e, hB, hne, D, hm.mono hn, hD⟩
theorem Bg.congr {w : World} {own : Nat → Prop} {g n : Nat} {l l' : List ByteArray} (h : Bg w own g n l) (hp : l.Perm l') : Bg w own g n l' := by
  obtain ⟨mv, h1, h2, h3, h4, h5⟩ := h
  have hl := hp.length_eq
  refine ⟨mv, by rw [← hl]; exact h1, h2, ?_, fun s hs => h4 s (hp.mem_iff.2 hs), by omega⟩
  rcases h3 with ⟨h3, rfl⟩ | ⟨B, e, hB, hne, hm⟩
  · exact .inl ⟨h3, hp.nil_eq.symm⟩
  · have e2 : cntF l' = cntF l := by
      funext s
      unfold cntF
      rw [List.perm_iff_count.1 hp s]
    exact .inr ⟨B, e, hB, hne, by rw [e2]; exact hm⟩
theorem Upd.below {own : Nat → Prop} {w w1 : World} (h : Upd own w w1) {b : Nat} (hb : b ≤ w.heap.size) (ho : ∀ j, own j → b ≤ j) : Below b w w1 := ⟨h.os, h.tape, h.output, h.size, fun j hj => h.far j (by omega) (fun hq => by have := ho j hq; omega)⟩
theorem Upd.of_below {own : Nat → Prop} {w w1 : World} (h : Below w.heap.size w w1) : Upd own w w1 := ⟨h.os, h.tape, h.output, h.size, fun j hj _ => h.block j hj⟩
theorem Upd.refl (own : Nat → Prop) (w : World) : Upd own w w := ⟨rfl, rfl, rfl, Nat.le_refl _, fun _ _ _ => rfl⟩
theorem Upd.trans {own own1 : Nat → Prop} {w w1 w2 : World} (h : Upd own w w1) (h2 : Upd own1 w1 w2) (ho : ∀ j, j < w.heap.size → own1 j → own j) : Upd own w w2 := ⟨h2.os.trans h.os, h2.tape.trans h.tape, h2.output.trans h.output, Nat.le_trans h.size h2.size, fun j hj hn => (h2.far j (by have := h.size; omega) (fun hq => hn (ho j hj hq))).trans (h.far j hj hn)⟩
theorem below_upd {own : Nat → Prop} {W w w' : World} (h : Below W.heap.size W w) (h2 : Upd own w w') (ho : ∀ j, own j → W.heap.size ≤ j) : Below W.heap.size W w' := h.trans (h2.below h.size ho)
theorem below_on {W w w' : World} (h : Below W.heap.size W w) (h2 : Below w.heap.size w w') : Below W.heap.size W w' := h.trans (h2.mono h.size)
theorem below_set {w w1 : World} {b g i : Nat} (h : Below b w w1) (hg : b ≤ g) (u : Value) : Below b w (w1.setCell ⟨g, i, none⟩ u) := ⟨h.os, h.tape, h.output, by simpa using h.size, fun j hj => (Below.heap_setCell w1 ⟨g, i, none⟩ u j (fun e => by have : j = g := e; omega)).trans (h.block j hj)⟩
theorem sb_same {w : World} {B : Nat} (h : B < w.heap.size) (o : Obj) : (Go.ChangeMaps.setBlock w B o).heap[B]? = some o := by simp [Go.ChangeMaps.setBlock, h]
theorem sb_other {w : World} {B j : Nat} (h : j ≠ B) (o : Obj) : (Go.ChangeMaps.setBlock w B o).heap[j]? = w.heap[j]? := by simp [Go.ChangeMaps.setBlock, Array.getElem?_setIfInBounds, Ne.symm h]

end Go.Proofs.Ytacfemgmnfkjoaa.QBag
