/- MReadU: what came in, read by a row of the second form ('..UptoSaid': arguments of bulk at most 1048576): as MRead, and strings and slices are no longer than that. A text of ours; no condition beside that one. -/
import Derived.Test.YtplmfnjijhppaaaMRead
import Derived.Test.YtplmfnjijhppaaaRows
namespace Go.Proofs.Ytplmfnjijhppaaa.MReadU
open Go.ChangeShapes Go.WideShapes Go.RowKit Go.Deep Go.Proofs.YtplmfnjijhppaaaW.PrintWords Go.Proofs.Ytplmfnjijhppaaa.MRead
set_option linter.unusedVariables false
section
variable {H : Type} {enc : TypeId × Value → H} {P : Program} {W : World} {base : Nat} {held : Bool}
theorem bulk_one {H : Type} (d : DataW H) : 1 ≤ Rows.uptoBulk d := by
  cases d with
  | lit l => cases l <;> simp [Rows.uptoBulk]
  | nil => simp [Rows.uptoBulk]
  | ptr d => simp [Rows.uptoBulk]
  | slice elems spare => simp [Rows.uptoBulk]
  | agg parts => simp [Rows.uptoBulk]
  | iface t d => simp [Rows.uptoBulk]
  | map entries => simp [Rows.uptoBulk]
  | held h => simp [Rows.uptoBulk]
theorem bulk_len {H : Type} (l : List (DataW H)) : l.length ≤ Rows.uptoBulkAll l := by
  induction l with
  | nil => simp [Rows.uptoBulkAll]
  | cons x r ih =>
    have := bulk_one x
    simp only [Rows.uptoBulkAll, List.length_cons]
    omega
theorem bulk_mem {H : Type} {l : List (DataW H)} {d : DataW H} (h : d ∈ l) : Rows.uptoBulk d ≤ Rows.uptoBulkAll l := by
  induction l with
  | nil => cases h
  | cons x r ih =>
    simp only [Rows.uptoBulkAll]
    rcases List.mem_cons.1 h with rfl | h
    · omega
    · have := ih h; omega
/-- As RdK, of data of bulk at most 1048576. -/
def RdU {α : Type} (enc : TypeId × Value → H) (P : Program) (W : World) (base : Nat) (held : Bool) (t : TypeId) (d : Kd α) (ok : α → Prop) : Prop :=
  ∀ fuel cs x, DataW.trod enc P W base (fun _ => true) held fuel t cs = some x → Light (DataW.weights P t x.1) → Rows.uptoBulk x.1 ≤ 1048576 → ∃ y, d.K W y cs ∧ ok y
theorem rdu_of {α : Type} {t : TypeId} {d : Kd α} {ok : α → Prop} (h : RdK enc P W base held t d ok) : RdU enc P W base held t d ok := fun fuel cs x hx hl _ => h fuel cs x hx hl
theorem rdu_string {t : TypeId} (ht : P.underlying t = some .string) : RdU enc P W base held t Kd.string (fun s => s.size ≤ 1048576) := by
  intro fuel cs x h hl hb
  obtain ⟨s, e0, hx, _⟩ := DataW.trod_string ht h
  refine ⟨s, by first | exact e0 | (subst e0; rfl), ?_⟩
  subst hx
  simp only [Rows.uptoBulk] at hb
  have e : s.data.toList.length = s.size := by simp
  omega
theorem rdu_slice {α : Type} [Inhabited α] {t e : TypeId} {d : Kd α} {ok : α → Prop} {B : Nat} (ht : P.underlying t = some (.slice e)) (hc : P.cellsOf e = d.sz) (hB : P.bytesOf e = B) (he : RdU enc P W base held e d ok) :
    RdU enc P W base held t (Kd.slice e d) (fun l => (∀ y ∈ l, ok y) ∧ l.length * B ≤ 140737488351232 ∧ l.length ≤ 1048576) := by
  intro fuel cs x h hl hbk
  rcases open_slice ht h with ⟨rfl, rfl⟩ | ⟨a, len, cap, m, n, D, Pl, rfl, _, hlc, hcm, hm, rfl, hel⟩
  · exact ⟨[], ⟨none, 0, rfl, Nat.le_refl _, rfl, by simp, fun h => absurd h (Nat.lt_irrefl _)⟩, fun y hy => (by cases hy), by simp, Nat.zero_le _⟩
  · have hm' : m = cap := by simpa using hm
    subst hm'
    simp only [DataW.weights, ht] at hl
    have hl2 := fun x hx => hl x (List.mem_cons_of_mem _ hx)
    have hL : Light (DataW.weightsAll P e ((List.range len).map D)) := (light_app hl2).1
    have hsz := hl _ List.mem_cons_self
    simp only [List.length_map, List.length_range] at hsz
    simp only [Rows.uptoBulk] at hbk
    have hlb := bulk_len ((List.range len).map D)
    rw [List.length_map, List.length_range] at hlb
    have hx : ∀ i, i < len → ∃ y : α, (∃ c, c.length = d.sz ∧ d.K W y c ∧ ∀ j u, c[j]? = some u → W.cell? (a.add (i * d.sz + j)) = some u) ∧ ok y := by
      intro i hi
      obtain ⟨cs', hcs, hr⟩ := hel i (by omega)
      rw [hc] at hcs
      obtain ⟨hlen, hcell⟩ := cells_len hcs
      have hbi : Rows.uptoBulk (D i) ≤ Rows.uptoBulkAll ((List.range len).map D) := bulk_mem (List.mem_map.2 ⟨i, List.mem_range.2 hi, rfl⟩)
      obtain ⟨y, hy, hok⟩ := he n cs' _ hr (weights_get hi hL) (by show Rows.uptoBulk (D i) ≤ _; omega)
      exact ⟨y, ⟨cs', hlen, hy, fun j u hu => by have := hcell j u hu; rwa [Go.Deep.add_add] at this⟩, hok⟩
    obtain ⟨f, hf⟩ := choose_lt hx
    refine ⟨(List.range len).map f, ⟨some a, m, by simp, by simpa using hlc, by simp, by simp; unfold maxLen at hcm; omega, fun _ => ⟨a, rfl, fun j p hp => ?_⟩⟩, ?_, ?_, ?_⟩
    · have hj : j < len := by
        rcases Nat.lt_or_ge j len with h' | h'
        · exact h'
        · rw [List.getElem?_eq_none (by simpa using h')] at hp; cases hp
      rw [List.getElem?_map, List.getElem?_range hj] at hp
      obtain rfl := Option.some.inj hp
      exact (hf j hj).1
    · intro y hy
      obtain ⟨i, hi, rfl⟩ := List.mem_map.1 hy
      exact (hf i (List.mem_range.1 hi)).2
    · rw [hB] at hsz
      have : len ≤ len + (m - len) := Nat.le_add_right _ _
      have h2 := Nat.mul_le_mul_right B this
      simp only [List.length_map, List.length_range]
      unfold reachBytes at hsz
      omega
    · simp only [List.length_map, List.length_range]; omega
/-- Some fields in line, from a cell on. -/
def RdFU {α : Type} (enc : TypeId × Value → H) (P : Program) (W : World) (base : Nat) (held : Bool) (total : Nat) (fs : List Field) (off : Nat) (d : Kd α) (ok : α → Prop) : Prop :=
  ∀ n (cs : List Value) (xs : List (DataW H × List MemPlace)), cs.length = total → xs.length = fs.length →
    (∀ (i : Nat) (f : Field), fs[i]? = some f → DataW.trod enc P W base (fun _ => true) held n f.type ((cs.drop f.offset).take (P.cellsOf f.type)) = xs[i]?) →
    Light (DataW.weightsEach P (fs.map (·.type)) (xs.map (·.1))) → Rows.uptoBulkAll (xs.map (·.1)) ≤ 1048576 → ∃ y, d.K W y (cs.drop off) ∧ ok y
theorem rdfu_one {α : Type} {total off : Nat} {f : Field} {d : Kd α} {ok : α → Prop} (ho : f.offset = off) (hc : off + P.cellsOf f.type = total) (h : RdU enc P W base held f.type d ok) : RdFU enc P W base held total [f] off d ok := by
  intro n cs xs hl hx hr hw hb
  match xs, hx with
  | [x], _ =>
    have h0 := hr 0 f rfl
    rw [ho] at h0
    have e : (cs.drop off).take (P.cellsOf f.type) = cs.drop off := List.take_of_length_le (by rw [List.length_drop]; omega)
    rw [e] at h0
    exact h n _ x h0 (light_app (b := []) (by simpa [DataW.weightsEach] using hw)).1 (by simpa [Rows.uptoBulkAll] using hb)
theorem rdfu_cons {α β : Type} {total off m : Nat} {f : Field} {fs : List Field} {d : Kd α} {d' : Kd β} {ok : α → Prop} {ok' : β → Prop} (ho : f.offset = off) (hc : P.cellsOf f.type = m) (h : RdU enc P W base held f.type d ok) (h' : RdFU enc P W base held total fs (off + m) d' ok') :
    RdFU enc P W base held total (f :: fs) off (Kd.pair d d') (fun y => ok y.1 ∧ ok' y.2) := by
  intro n cs xs hl hx hr hw hb
  match xs, hx with
  | x :: xs, hx =>
    have h0 := hr 0 f rfl
    rw [ho, hc] at h0
    simp only [List.map_cons, DataW.weightsEach] at hw
    simp only [List.map_cons, Rows.uptoBulkAll] at hb
    obtain ⟨hw1, hw2⟩ := light_app hw
    obtain ⟨y, hy, hok⟩ := h n _ x h0 hw1 (by omega)
    obtain ⟨z, hz, hok'⟩ := h' n cs xs hl (by simpa using hx) (fun i g hg => by have := hr (i + 1) g (by simpa using hg); simpa using this) hw2 (by omega)
    refine ⟨(y, z), ⟨(cs.drop off).take m, cs.drop (off + m), ?_, hy, hz⟩, hok, hok'⟩
    rw [← List.drop_drop]; exact (List.take_append_drop m _).symm
theorem rdu_struct {α β : Type} {t : TypeId} {fs : Array Field} {total : Nat} {d : Kd α} {ok : α → Prop} {g : β → α} (mk : α → β) (hg : ∀ a, g (mk a) = a) (ht : P.underlying t = some (.struct fs)) (hc : P.cellsOf t = total) (h : RdFU enc P W base held total fs.toList 0 d ok) :
    RdU enc P W base held t (Kd.iso d g) (fun y => ok (g y)) := by
  intro fuel cs x hr hw hb
  obtain ⟨xs, n, rfl, rfl, hl, hx, hf⟩ := DataW.trod_struct ht hr
  simp only [DataW.weights, ht] at hw
  simp only [Rows.uptoBulk] at hb
  obtain ⟨y, hy, hok⟩ := h n cs xs (by omega) (by simpa using hx) (fun i f hif => hf i f (by simpa using hif)) hw (by omega)
  refine ⟨mk y, ?_, by show ok (g (mk y)); rw [hg]; exact hok⟩
  show d.K W (g (mk y)) cs
  rw [hg]; simpa using hy
/-- An argument that came in. -/
theorem arg_kindU {α : Type} {t : TypeId} {d : Kd α} {ok : α → Prop} {v : Value} {x : DataW H} {p : List MemPlace} (hk : RdU enc P W base held t d ok) (h : DataW.Trod enc P W base (fun _ => true) held t v x p) (hw : Light (DataW.weights P t x)) (hb : Rows.uptoBulk x ≤ 1048576) : ∃ y, d.K W y v.cells.toList ∧ ok y := by
  obtain ⟨fuel, hf⟩ := h
  exact hk fuel _ _ hf hw hb
end
end Go.Proofs.Ytplmfnjijhppaaa.MReadU
