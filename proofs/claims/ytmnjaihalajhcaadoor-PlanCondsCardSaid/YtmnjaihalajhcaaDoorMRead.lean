/- MRead: what came in, read by the row, is a value of one of the printer's kinds ('Kd'); kind by kind, with what is known of it ('ok'): whole numbers are of their kind, strings and slices within the form's reach. A text of ours; no condition. -/
import Derived.SizedLaws
import Derived.ChangeSlices
import Derived.ChangeArms
import Derived.Deep.Slices
import Derived.ProofKit
import Derived.OpenShut
import Derived.Below
import Derived.Test.YtmnjaihalajhcaaDoorWWords
namespace Go.Proofs.YtmnjaihalajhcaaDoor.MRead
open Go.ChangeShapes Go.WideShapes Go.RowKit Go.Deep Go.Proofs.YtmnjaihalajhcaaDoorW.PrintWords
set_option linter.unusedVariables false

section
variable {H : Type} {enc : TypeId × Value → H} {P : Program} {W : World} {base : Nat} {held : Bool}

/-- All weights within the reach. -/
def Light (l : List Nat) : Prop := ∀ x ∈ l, x ≤ reachBytes
theorem light_app {a b : List Nat} (h : Light (a ++ b)) : Light a ∧ Light b := ⟨fun x hx => h x (List.mem_append_left _ hx), fun x hx => h x (List.mem_append_right _ hx)⟩
theorem light_of_all {l : List Nat} (h : l.all (· ≤ reachBytes) = true) : Light l := fun x hx => of_decide_eq_true (List.all_eq_true.1 h x hx)

/-- A value of type t, read, is one of the kind d, of which 'ok' holds. -/
def RdK {α : Type} (enc : TypeId × Value → H) (P : Program) (W : World) (base : Nat) (held : Bool) (t : TypeId) (d : Kd α) (ok : α → Prop) : Prop :=
  ∀ fuel cs x, DataW.trod enc P W base (fun _ => true) held fuel t cs = some x → Light (DataW.weights P t x.1) → ∃ y, d.K W y cs ∧ ok y

theorem rd_int {t : TypeId} {k : IntKind} (ht : P.underlying t = some (.int k)) : RdK enc P W base held t (Kd.int k) (fun n => (Lit.int k n).wf = true) := by
  intro fuel cs x h _
  obtain ⟨a, e0, _, wa⟩ := DataW.trod_int ht h
  exact ⟨a, by first | exact e0 | (subst e0; rfl), wa⟩
theorem rd_bool {t : TypeId} (ht : P.underlying t = some .bool) : RdK enc P W base held t Kd.bool (fun _ => True) := by
  intro fuel cs x h _
  obtain ⟨a, e0, _⟩ := DataW.trod_bool ht h
  exact ⟨a, by first | exact e0 | (subst e0; rfl), trivial⟩
theorem rd_string {t : TypeId} (ht : P.underlying t = some .string) : RdK enc P W base held t Kd.string (fun s => s.size ≤ 140737488351232) := by
  intro fuel cs x h hl
  obtain ⟨s, e0, hx, _⟩ := DataW.trod_string ht h
  refine ⟨s, by first | exact e0 | (subst e0; rfl), ?_⟩
  subst hx
  have := hl s.data.toList.length (by simp [DataW.weights])
  simpa [reachBytes] using this

theorem cells_len {a : Addr} {n : Nat} {cs : List Value} (h : W.cells? base a n = some cs) : cs.length = n ∧ ∀ i u, cs[i]? = some u → W.cell? (a.add i) = some u := by
  unfold World.cells? at h
  split at h
  · have hl := mapM_some_length h
    simp at hl
    refine ⟨hl, fun i u hu => ?_⟩
    have hi : i < cs.length := by
      rcases Nat.lt_or_ge i cs.length with h' | h'
      · exact h'
      · rw [List.getElem?_eq_none h'] at hu; cases hu
    have := mapM_some_get h i i (by rw [List.getElem?_range (by omega)])
    rw [this]; exact hu
  · cases h

theorem weights_get {e : TypeId} {n : Nat} {D : Nat → DataW H} {i : Nat} (hi : i < n) (h : Light (DataW.weightsAll P e ((List.range n).map D))) : Light (DataW.weights P e (D i)) := by
  have key : ∀ l : List Nat, i ∈ l → Light (DataW.weightsAll P e (l.map D)) → Light (DataW.weights P e (D i)) := by
    intro l
    induction l with
    | nil => intro hm; cases hm
    | cons a l ih =>
      intro hm hL
      simp only [List.map_cons, DataW.weightsAll] at hL
      rcases List.mem_cons.1 hm with rfl | hm
      · exact (light_app hL).1
      · exact ih hm (light_app hL).2
  exact key _ (List.mem_range.2 hi) h

theorem rd_slice {α : Type} [Inhabited α] {t e : TypeId} {d : Kd α} {ok : α → Prop} {B : Nat} (ht : P.underlying t = some (.slice e)) (hc : P.cellsOf e = d.sz) (hB : P.bytesOf e = B) (he : RdK enc P W base held e d ok) :
    RdK enc P W base held t (Kd.slice e d) (fun l => (∀ y ∈ l, ok y) ∧ l.length * B ≤ 140737488351232 ∧ l.length ≤ maxLen) := by
  intro fuel cs x h hl
  rcases open_slice ht h with ⟨rfl, rfl⟩ | ⟨a, len, cap, m, n, D, Pl, rfl, _, hlc, hcm, hm, rfl, hel⟩
  · exact ⟨[], ⟨none, 0, rfl, Nat.le_refl _, rfl, by simp, fun h => absurd h (Nat.lt_irrefl _)⟩, fun y hy => (by cases hy), by simp, Nat.zero_le _⟩
  · have hm' : m = cap := by simpa using hm
    subst hm'
    simp only [DataW.weights, ht] at hl
    have hl2 := fun x hx => hl x (List.mem_cons_of_mem _ hx)
    have hL : Light (DataW.weightsAll P e ((List.range len).map D)) := (light_app hl2).1
    have hsz := hl _ List.mem_cons_self
    simp only [List.length_map, List.length_range] at hsz
    have hx : ∀ i, i < len → ∃ y : α, (∃ c, c.length = d.sz ∧ d.K W y c ∧ ∀ j u, c[j]? = some u → W.cell? (a.add (i * d.sz + j)) = some u) ∧ ok y := by
      intro i hi
      obtain ⟨cs', hcs, hr⟩ := hel i (by omega)
      rw [hc] at hcs
      obtain ⟨hlen, hcell⟩ := cells_len hcs
      obtain ⟨y, hy, hok⟩ := he n cs' _ hr (weights_get hi hL)
      exact ⟨y, ⟨cs', hlen, hy, fun j u hu => by have := hcell j u hu; rwa [Go.Deep.add_add] at this⟩, hok⟩
    obtain ⟨f, hf⟩ := choose_lt hx
    refine ⟨(List.range len).map f, ⟨some a, m, by simp, by simpa using hlc, by simp, by simp; unfold maxLen at hcm; omega, fun _ => ⟨a, rfl, fun j p hp => ?_⟩⟩, ?_, ?_, ?_⟩
    · have hj : j < len := by
        rcases Nat.lt_or_ge j len with h' | h'
        · exact h'
        · rw [List.getElem?_eq_none (by simpa using h')] at hp; cases hp
      rw [List.getElem?_map, List.getElem?_range hj] at hp
      obtain rfl := Option.some.inj hp
      exact (hf j hj).1
    · intro y hy
      obtain ⟨i, hi, rfl⟩ := List.mem_map.1 hy
      exact (hf i (List.mem_range.1 hi)).2
    · rw [hB] at hsz
      have : len ≤ len + (m - len) := Nat.le_add_right _ _
      have h2 := Nat.mul_le_mul_right B this
      simp only [List.length_map, List.length_range]
      unfold reachBytes at hsz
      omega
    · simp only [List.length_map, List.length_range]; omega

/-- Some fields in line, from a cell on. -/
def RdF {α : Type} (enc : TypeId × Value → H) (P : Program) (W : World) (base : Nat) (held : Bool) (total : Nat) (fs : List Field) (off : Nat) (d : Kd α) (ok : α → Prop) : Prop :=
  ∀ n (cs : List Value) (xs : List (DataW H × List MemPlace)), cs.length = total → xs.length = fs.length →
    (∀ (i : Nat) (f : Field), fs[i]? = some f → DataW.trod enc P W base (fun _ => true) held n f.type ((cs.drop f.offset).take (P.cellsOf f.type)) = xs[i]?) →
    Light (DataW.weightsEach P (fs.map (·.type)) (xs.map (·.1))) → ∃ y, d.K W y (cs.drop off) ∧ ok y
theorem rdf_one {α : Type} {total off : Nat} {f : Field} {d : Kd α} {ok : α → Prop} (ho : f.offset = off) (hc : off + P.cellsOf f.type = total) (h : RdK enc P W base held f.type d ok) : RdF enc P W base held total [f] off d ok := by
  intro n cs xs hl hx hr hw
  match xs, hx with
  | [x], _ =>
    have h0 := hr 0 f rfl
    rw [ho] at h0
    have e : (cs.drop off).take (P.cellsOf f.type) = cs.drop off := List.take_of_length_le (by rw [List.length_drop]; omega)
    rw [e] at h0
    exact h n _ x h0 (light_app (b := []) (by simpa [DataW.weightsEach] using hw)).1
theorem rdf_cons {α β : Type} {total off m : Nat} {f : Field} {fs : List Field} {d : Kd α} {d' : Kd β} {ok : α → Prop} {ok' : β → Prop} (ho : f.offset = off) (hc : P.cellsOf f.type = m) (h : RdK enc P W base held f.type d ok) (h' : RdF enc P W base held total fs (off + m) d' ok') :
    RdF enc P W base held total (f :: fs) off (Kd.pair d d') (fun y => ok y.1 ∧ ok' y.2) := by
  intro n cs xs hl hx hr hw
  match xs, hx with
  | x :: xs, hx =>
    have h0 := hr 0 f rfl
    rw [ho, hc] at h0
    simp only [List.map_cons, DataW.weightsEach] at hw
    obtain ⟨hw1, hw2⟩ := light_app hw
    obtain ⟨y, hy, hok⟩ := h n _ x h0 hw1
    obtain ⟨z, hz, hok'⟩ := h' n cs xs hl (by simpa using hx) (fun i g hg => by have := hr (i + 1) g (by simpa using hg); simpa using this) hw2
    refine ⟨(y, z), ⟨(cs.drop off).take m, cs.drop (off + m), ?_, hy, hz⟩, hok, hok'⟩
    rw [← List.drop_drop]; exact (List.take_append_drop m _).symm
theorem rd_struct {α β : Type} {t : TypeId} {fs : Array Field} {total : Nat} {d : Kd α} {ok : α → Prop} {g : β → α} (mk : α → β) (hg : ∀ a, g (mk a) = a) (ht : P.underlying t = some (.struct fs)) (hc : P.cellsOf t = total) (h : RdF enc P W base held total fs.toList 0 d ok) :
    RdK enc P W base held t (Kd.iso d g) (fun y => ok (g y)) := by
  intro fuel cs x hr hw
  obtain ⟨xs, n, rfl, rfl, hl, hx, hf⟩ := DataW.trod_struct ht hr
  simp only [DataW.weights, ht] at hw
  obtain ⟨y, hy, hok⟩ := h n cs xs (by omega) (by simpa using hx) (fun i f hif => hf i f (by simpa using hif)) hw
  refine ⟨mk y, ?_, by show ok (g (mk y)); rw [hg]; exact hok⟩
  show d.K W (g (mk y)) cs
  rw [hg]; simpa using hy

theorem weights_arg {ts : List TypeId} {ds : List (DataW H)} (h : Light (DataW.weightsEach P ts ds)) {j : Nat} {t : TypeId} {d : DataW H} (ht : ts[j]? = some t) (hd : ds[j]? = some d) : Light (DataW.weights P t d) := by
  induction ts generalizing ds j with
  | nil => simp at ht
  | cons a ts ih =>
    match ds with
    | [] => simp at hd
    | b :: ds =>
      simp only [DataW.weightsEach] at h
      cases j with
      | zero =>
        simp only [List.getElem?_cons_zero, Option.some.injEq] at ht hd
        subst ht; subst hd
        exact (light_app h).1
      | succ j => exact ih (light_app h).2 (by simpa using ht) (by simpa using hd)
/-- An argument that came in. -/
theorem arg_kind {α : Type} {t : TypeId} {d : Kd α} {ok : α → Prop} {v : Value} {x : DataW H} {p : List MemPlace} (hk : RdK enc P W base held t d ok) (h : DataW.Trod enc P W base (fun _ => true) held t v x p) (hw : Light (DataW.weights P t x)) : ∃ y, d.K W y v.cells.toList ∧ ok y := by
  obtain ⟨fuel, hf⟩ := h
  exact hk fuel _ _ hf hw
theorem agg_cells {r : Reach} {b0 : Nat} {t : TypeId} {fs : Array Field} {v : Value} (hs : P.underlying t = some (.struct fs)) (hv : Value.okWide P W r b0 t v) : ∃ cs, v = .agg cs ∧ v.cells.toList = cs.toList := by
  obtain ⟨cs, rfl, _⟩ := okWide_struct hs hv
  exact ⟨cs, rfl, rfl⟩
end
end Go.Proofs.YtmnjaihalajhcaaDoor.MRead
