import Derived.Test.YtmnjaihalajhcaaDoorPlR
import Derived.Test.YtmnjaihalajhcaaDoorMRead
/- Plan: walks by hand; the conditions stand in each theorem. -/
namespace Go.Proofs.YtmnjaihalajhcaaDoor.QPlanConds
open Go.RowKit Go.Proofs.YtmnjaihalajhcaaDoorW.PrintWords Go.Proofs.YtmnjaihalajhcaaDoorW.PrintLast Go.Proofs.YtmnjaihalajhcaaDoorW.PrintMore
attribute [local go_sem] max2_int min2_int max_two min_two max_three min_three max_four min_four
set_option linter.unusedVariables false
set_option linter.unusedSimpArgs false
open Go.Proofs.YtmnjaihalajhcaaDoor.MRead Go.ChangeShapes Go.WideShapes Go.Deep
section
variable {H : Type} {enc : TypeId × Value → H} {P : Program} {W : World} {base : Nat} {held : Bool}
/- A value read with so much fuel. -/
def RdB {α : Type} (N : Nat) (enc : TypeId × Value → H) (P : Program) (W : World) (base : Nat) (held : Bool) (t : TypeId) (d : Kd α) (ok : α → Prop) : Prop :=
  ∀ fuel, fuel ≤ N → ∀ cs x, DataW.trod enc P W base (fun _ => true) held fuel t cs = some x → Light (DataW.weights P t x.1) → ∃ y, d.K W y cs ∧ ok y
theorem rdB_of {α : Type} {N : Nat} {t : TypeId} {d : Kd α} {ok : α → Prop} (h : RdK enc P W base held t d ok) : RdB N enc P W base held t d ok := fun fuel _ => h fuel
theorem rdB_slice {α : Type} [Inhabited α] {N : Nat} {t e : TypeId} {d : Kd α} {ok : α → Prop} {B : Nat} (ht : P.underlying t = some (.slice e)) (hc : P.cellsOf e = d.sz) (hB : P.bytesOf e = B) (he : RdB N enc P W base held e d ok) :
    RdB N enc P W base held t (Kd.slice e d) (fun l => (∀ y ∈ l, ok y) ∧ l.length * B ≤ 140737488351232 ∧ l.length ≤ maxLen) := by
  intro fuel hfu cs x h hl
  have hn : ∀ n, fuel = n + 1 → n ≤ N := fun n h => by omega
  rcases DataW.trod_slice ht h with ⟨rfl, rfl⟩ | ⟨a, len, cap, es, rest, n, hfn, rfl, rfl, _, hlc, hcm, hlen, hel, hsp, _⟩
  · exact ⟨[], ⟨none, 0, rfl, Nat.le_refl _, rfl, by simp, fun h => absurd h (Nat.lt_irrefl _)⟩, fun y hy => (by cases hy), by simp, Nat.zero_le _⟩
  · have hn1 := hn n hfn
    simp only [DataW.weights, ht] at hl
    have hl2 := fun x hx => hl x (List.mem_cons_of_mem _ hx)
    have hL : Light (DataW.weightsAll P e (es.map (·.1))) := (light_app hl2).1
    have hsz := hl _ List.mem_cons_self
    simp only [List.length_map] at hsz
    have hw : ∀ (i : Nat) (z : DataW H × List MemPlace), es[i]? = some z → Light (DataW.weights P e z.1) := by
      have key : ∀ (l : List (DataW H × List MemPlace)), Light (DataW.weightsAll P e (l.map (·.1))) → ∀ (i : Nat) (z : DataW H × List MemPlace), l[i]? = some z → Light (DataW.weights P e z.1) := by
        intro l
        induction l with
        | nil => intro _ i z hz; simp at hz
        | cons a l ih =>
          intro hL i z hz
          simp only [List.map_cons, DataW.weightsAll] at hL
          cases i with
          | zero => simp at hz; subst hz; exact (light_app hL).1
          | succ i => exact ih (light_app hL).2 i z (by simpa using hz)
      exact key es hL
    have hx : ∀ i, i < len → ∃ y : α, (∃ c, c.length = d.sz ∧ d.K W y c ∧ ∀ j u, c[j]? = some u → W.cell? (a.add (i * d.sz + j)) = some u) ∧ ok y := by
      intro i hi
      have h1 := hel i hi
      have hi2 : i < es.length := by omega
      rw [List.getElem?_eq_getElem hi2] at h1
      obtain ⟨cs', hcs, hr⟩ := Option.bind_eq_some_iff.1 h1
      rw [hc] at hcs
      obtain ⟨hlen, hcell⟩ := cells_len hcs
      obtain ⟨y, hy, hok⟩ := he n hn1 cs' _ hr (hw i _ (List.getElem?_eq_getElem hi2))
      exact ⟨y, ⟨cs', hlen, hy, fun j u hu => by have := hcell j u hu; rwa [Go.Deep.add_add] at this⟩, hok⟩
    obtain ⟨f, hf⟩ := choose_lt hx
    refine ⟨(List.range len).map f, ⟨some a, cap, by simp, by simpa using hlc, by simp, by simp; unfold maxLen at hcm; omega, fun _ => ⟨a, rfl, fun j p hp => ?_⟩⟩, ?_, ?_, ?_⟩
    · have hj : j < len := by
        rcases Nat.lt_or_ge j len with h' | h'
        · exact h'
        · rw [List.getElem?_eq_none (by simpa using h')] at hp; cases hp
      rw [List.getElem?_map, List.getElem?_range hj] at hp
      obtain rfl := Option.some.inj hp
      exact (hf j hj).1
    · intro y hy
      obtain ⟨i, hi, rfl⟩ := List.mem_map.1 hy
      exact (hf i (List.mem_range.1 hi)).2
    · rw [hB] at hsz
      have : len ≤ es.length + rest.length := by omega
      have h2 := Nat.mul_le_mul_right B this
      simp only [List.length_map, List.length_range]
      unfold reachBytes at hsz
      omega
    · simp only [List.length_map, List.length_range]; omega
def RdFB {α : Type} (N : Nat) (enc : TypeId × Value → H) (P : Program) (W : World) (base : Nat) (held : Bool) (total : Nat) (fs : List Field) (off : Nat) (d : Kd α) (ok : α → Prop) : Prop :=
  ∀ n, n ≤ N → ∀ (cs : List Value) (xs : List (DataW H × List MemPlace)), cs.length = total → xs.length = fs.length →
    (∀ (i : Nat) (f : Field), fs[i]? = some f → DataW.trod enc P W base (fun _ => true) held n f.type ((cs.drop f.offset).take (P.cellsOf f.type)) = xs[i]?) →
    Light (DataW.weightsEach P (fs.map (·.type)) (xs.map (·.1))) → ∃ y, d.K W y (cs.drop off) ∧ ok y
theorem rdfB_one {α : Type} {N : Nat} {total off : Nat} {f : Field} {d : Kd α} {ok : α → Prop} (ho : f.offset = off) (hc : off + P.cellsOf f.type = total) (h : RdB N enc P W base held f.type d ok) : RdFB N enc P W base held total [f] off d ok := by
  intro n hn cs xs hl hx hr hw
  match xs, hx with
  | [x], _ =>
    have h0 := hr 0 f rfl
    rw [ho] at h0
    have e : (cs.drop off).take (P.cellsOf f.type) = cs.drop off := List.take_of_length_le (by rw [List.length_drop]; omega)
    rw [e] at h0
    exact h n hn _ x h0 (light_app (b := []) (by simpa [DataW.weightsEach] using hw)).1
theorem rdfB_cons {α β : Type} {N : Nat} {total off m : Nat} {f : Field} {fs : List Field} {d : Kd α} {d' : Kd β} {ok : α → Prop} {ok' : β → Prop} (ho : f.offset = off) (hc : P.cellsOf f.type = m) (h : RdB N enc P W base held f.type d ok) (h' : RdFB N enc P W base held total fs (off + m) d' ok') :
    RdFB N enc P W base held total (f :: fs) off (Kd.pair d d') (fun y => ok y.1 ∧ ok' y.2) := by
  intro n hn cs xs hl hx hr hw
  match xs, hx with
  | x :: xs, hx =>
    have h0 := hr 0 f rfl
    rw [ho, hc] at h0
    simp only [List.map_cons, DataW.weightsEach] at hw
    obtain ⟨hw1, hw2⟩ := light_app hw
    obtain ⟨y, hy, hok⟩ := h n hn _ x h0 hw1
    obtain ⟨z, hz, hok'⟩ := h' n hn cs xs hl (by simpa using hx) (fun i g hg => by have := hr (i + 1) g (by simpa using hg); simpa using this) hw2
    refine ⟨(y, z), ⟨(cs.drop off).take m, cs.drop (off + m), ?_, hy, hz⟩, hok, hok'⟩
    rw [← List.drop_drop]; exact (List.take_append_drop m _).symm
theorem rdB_struct {α β : Type} {N : Nat} {t : TypeId} {fs : Array Field} {total : Nat} {d : Kd α} {ok : α → Prop} {g : β → α} (mk : α → β) (hg : ∀ a, g (mk a) = a) (ht : P.underlying t = some (.struct fs)) (hc : P.cellsOf t = total) (h : RdFB N enc P W base held total fs.toList 0 d ok) :
    RdB (N + 1) enc P W base held t (Kd.iso d g) (fun y => ok (g y)) := by
  intro fuel hfu cs x hr hw
  obtain ⟨xs, n, hfn, rfl, hl, hx, hf⟩ := DataW.trod_struct ht hr
  have hn : n ≤ N := by omega
  simp only [DataW.weights, ht] at hw
  obtain ⟨y, hy, hok⟩ := h n hn cs xs (by omega) (by simpa using hx) (fun i f hif => hf i f (by simpa using hif)) hw
  refine ⟨mk y, ?_, by show ok (g (mk y)); rw [hg]; exact hok⟩
  show d.K W (g (mk y)) cs
  rw [hg]; simpa using hy
theorem rdB_imp {α : Type} {N : Nat} {t : TypeId} {d d' : Kd α} {ok ok' : α → Prop} (h : RdB N enc P W base held t d ok) (hd : ∀ y cs, d.K W y cs → d'.K W y cs) (hok : ∀ y, ok y → ok' y) : RdB N enc P W base held t d' ok' := by
  intro fuel hf cs x hr hw
  obtain ⟨y, hy, ho⟩ := h fuel hf cs x hr hw
  exact ⟨y, hd y cs hy, hok y ho⟩
end
theorem fold46 {w : World} {x : S46} {cs : List Value} (h : (F46 k46).K w x cs) : k46.K w x cs := by
  obtain ⟨_, _, rfl, rfl, ⟨_, _, rfl, s1, ⟨_, _, rfl, rfl, ⟨_, _, rfl, rfl, ⟨_, _, rfl, rfl, ⟨_, _, rfl, rfl, ⟨A8, c8, rfl, l8, g8⟩⟩⟩⟩⟩⟩⟩ := h
  obtain rfl := k44_open s1
  exact k46_mk w x l8 g8
theorem fold34 {w : World} {x : S34} {cs : List Value} (h : (F34 k34).K w x cs) : k34.K w x cs := by
  obtain ⟨_, _, rfl, rfl, ⟨_, _, rfl, rfl, ⟨_, _, rfl, rfl, ⟨_, _, rfl, rfl, ⟨_, _, rfl, rfl, ⟨_, _, rfl, rfl, ⟨_, _, rfl, rfl, ⟨A7, c7, rfl, l7, g7⟩⟩⟩⟩⟩⟩⟩⟩ := h
  exact k34_mk w x l7 g7
instance instS46 : Inhabited S46 := ⟨z46⟩
instance instS34 : Inhabited S34 := ⟨z34⟩
instance instS121 : Inhabited S121 := ⟨z121⟩
section
variable {H : Type} {enc : TypeId × Value → H} {W : World} {base : Nat} {held : Bool}
theorem rdT44 : RdK enc Tryd.prog W base held 44 k44 (fun _ => True) := by
  have h : RdK enc Tryd.prog W base held 44 k44 _ := rd_struct (g := fun x : S44 => (x.f0, x.f1, x.f2)) (fun a => ⟨a.1, a.2.1, a.2.2⟩) (fun _ => rfl) Tryd.underlying44 (total := 3) (by kernel_rfl) (rdf_cons (m := 1) rfl (by kernel_rfl) (rd_int Tryd.underlying3) (rdf_cons (m := 1) rfl (by kernel_rfl) (rd_int Tryd.underlying3) (rdf_one (f := _) rfl (by kernel_rfl) (rd_string Tryd.underlying9))))
  intro fuel cs x hr hw
  obtain ⟨y, hy, _⟩ := h fuel cs x hr hw
  exact ⟨y, hy, trivial⟩
theorem rdT46 : RdK enc Tryd.prog W base held 46 k46 (fun _ => True) := by
  have h : ∀ N, RdB N enc Tryd.prog W base held 46 k46 (fun _ => True) := by
    intro N
    induction N with
    | zero =>
      intro fuel hf cs x hr hw
      obtain ⟨xs, n, hfn, _⟩ := DataW.trod_struct Tryd.underlying46 hr
      omega
    | succ N ih =>
      refine rdB_imp (d := F46 k46) (rdB_struct (g := fun x : S46 => (x.f0, x.f1, x.f2, x.f3, x.f4, x.f5, x.f6)) (fun a => ⟨a.1, a.2.1, a.2.2.1, a.2.2.2.1, a.2.2.2.2.1, a.2.2.2.2.2.1, a.2.2.2.2.2.2⟩) (fun _ => rfl) Tryd.underlying46 (total := 9) (by kernel_rfl) (rdfB_cons (m := 1) rfl (by kernel_rfl) (rdB_of (rd_int Tryd.underlying3)) (rdfB_cons (m := 3) rfl (by kernel_rfl) (rdB_of rdT44) (rdfB_cons (m := 1) rfl (by kernel_rfl) (rdB_of (rd_int Tryd.underlying3)) (rdfB_cons (m := 1) rfl (by kernel_rfl) (rdB_of (rd_int Tryd.underlying3)) (rdfB_cons (m := 1) rfl (by kernel_rfl) (rdB_of (rd_int Tryd.underlying3)) (rdfB_cons (m := 1) rfl (by kernel_rfl) (rdB_of (rd_string Tryd.underlying9)) (rdfB_one (f := _) rfl (by kernel_rfl) (rdB_slice (B := 104) Tryd.underlying23 (by kernel_rfl) (by kernel_rfl) ih))))))))) (fun y cs h => fold46 h) (fun _ _ => trivial)
  exact fun fuel => h fuel fuel (Nat.le_refl _)
def I64 (n : Int) : Prop := -9223372036854775808 ≤ n ∧ n ≤ 9223372036854775807
theorem rdT34 : RdK enc Tryd.prog W base held 34 k34 (numsP I64) := by
  have h : ∀ N, RdB N enc Tryd.prog W base held 34 k34 (numsP I64) := by
    intro N
    induction N with
    | zero =>
      intro fuel hf cs x hr hw
      obtain ⟨xs, n, hfn, _⟩ := DataW.trod_struct Tryd.underlying34 hr
      omega
    | succ N ih =>
      refine rdB_imp (d := F34 k34) (rdB_struct (g := fun x : S34 => (x.f0, x.f1, x.f2, x.f3, x.f4, x.f5, x.f6, x.f7)) (fun a => ⟨a.1, a.2.1, a.2.2.1, a.2.2.2.1, a.2.2.2.2.1, a.2.2.2.2.2.1, a.2.2.2.2.2.2.1, a.2.2.2.2.2.2.2⟩) (fun _ => rfl) Tryd.underlying34 (total := 8) (by kernel_rfl) (rdfB_cons (m := 1) rfl (by kernel_rfl) (rdB_of (rd_int Tryd.underlying3)) (rdfB_cons (m := 1) rfl (by kernel_rfl) (rdB_of (rd_int Tryd.underlying3)) (rdfB_cons (m := 1) rfl (by kernel_rfl) (rdB_of (rd_int Tryd.underlying3)) (rdfB_cons (m := 1) rfl (by kernel_rfl) (rdB_of (rd_int Tryd.underlying3)) (rdfB_cons (m := 1) rfl (by kernel_rfl) (rdB_of (rd_bool Tryd.underlying4)) (rdfB_cons (m := 1) rfl (by kernel_rfl) (rdB_of (rd_int Tryd.underlying3)) (rdfB_cons (m := 1) rfl (by kernel_rfl) (rdB_of (rd_int Tryd.underlying3)) (rdfB_one (f := _) rfl (by kernel_rfl) (rdB_slice (B := 80) Tryd.underlying32 (by kernel_rfl) (by kernel_rfl) ih)))))))))) (fun y cs h => fold34 h) (fun y h => ?_)
      rw [numsP_eq]
      refine ⟨i64_bd h.2.1, i64_bd h.2.2.1, i64_bd h.2.2.2.1, fun q hq => ?_⟩
      obtain ⟨z, hz, rfl⟩ := List.mem_map.1 hq
      exact h.2.2.2.2.2.2.2.1 z hz
  exact fun fuel => h fuel fuel (Nat.le_refl _)
theorem rdT121 : RdK enc Tryd.prog W base held 121 k121 (fun _ => True) := by
  have h : RdK enc Tryd.prog W base held 121 k121 _ := rd_struct (g := fun x : S121 => (x.f0, x.f1)) (fun a => ⟨a.1, a.2⟩) (fun _ => rfl) Tryd.underlying121 (total := 10) (by kernel_rfl) (rdf_cons (m := 1) rfl (by kernel_rfl) (rd_int Tryd.underlying3) (rdf_one (f := _) rfl (by kernel_rfl) rdT46))
  intro fuel cs x hr hw
  obtain ⟨y, hy, _⟩ := h fuel cs x hr hw
  exact ⟨y, hy, trivial⟩
end
abbrev s46K : Kd (List S46) := Kd.slice 46 k46
abbrev k26 := Kd.pair (Kd.slice 3 (Kd.int .i64)) (Kd.pair (Kd.int .i64) (Kd.pair (Kd.slice 3 (Kd.int .i64)) (Kd.pair s46K (Kd.pair s46K (Kd.pair s46K (Kd.pair s46K (Kd.pair Kd.bool (Kd.pair s46K (Kd.pair (Kd.slice 121 k121) Kd.bool)))))))))
theorem rdT26 {H : Type} {enc : TypeId × Value → H} {W : World} {base : Nat} {held : Bool} : RdK enc Tryd.prog W base held 26 (Kd.iso k26 (fun y => y)) (fun _ => True) := by
  have h : RdK enc Tryd.prog W base held 26 (Kd.iso k26 (fun y => y)) _ := rd_struct (g := fun y => y) (fun a => a) (fun _ => rfl) Tryd.underlying26 (total := 11) (by kernel_rfl) (rdf_cons (m := 1) rfl (by kernel_rfl) (rd_slice (B := 8) Tryd.underlying22 (by kernel_rfl) (by kernel_rfl) (rd_int Tryd.underlying3)) (rdf_cons (m := 1) rfl (by kernel_rfl) (rd_int Tryd.underlying3) (rdf_cons (m := 1) rfl (by kernel_rfl) (rd_slice (B := 8) Tryd.underlying22 (by kernel_rfl) (by kernel_rfl) (rd_int Tryd.underlying3)) (rdf_cons (m := 1) rfl (by kernel_rfl) (rd_slice (B := 104) Tryd.underlying23 (by kernel_rfl) (by kernel_rfl) rdT46) (rdf_cons (m := 1) rfl (by kernel_rfl) (rd_slice (B := 104) Tryd.underlying23 (by kernel_rfl) (by kernel_rfl) rdT46) (rdf_cons (m := 1) rfl (by kernel_rfl) (rd_slice (B := 104) Tryd.underlying23 (by kernel_rfl) (by kernel_rfl) rdT46) (rdf_cons (m := 1) rfl (by kernel_rfl) (rd_slice (B := 104) Tryd.underlying23 (by kernel_rfl) (by kernel_rfl) rdT46) (rdf_cons (m := 1) rfl (by kernel_rfl) (rd_bool Tryd.underlying4) (rdf_cons (m := 1) rfl (by kernel_rfl) (rd_slice (B := 104) Tryd.underlying23 (by kernel_rfl) (by kernel_rfl) rdT46) (rdf_cons (m := 1) rfl (by kernel_rfl) (rd_slice (B := 112) Tryd.underlying24 (by kernel_rfl) (by kernel_rfl) rdT121) (rdf_one (f := _) rfl (by kernel_rfl) (rd_bool Tryd.underlying4))))))))))))
  intro fuel cs x hr hw
  obtain ⟨y, hy, _⟩ := h fuel cs x hr hw
  exact ⟨y, hy, trivial⟩
theorem open26 {W : World} {y} {cs : List Value} (h : (Kd.iso k26 (fun y => y)).K W y cs) : ∃ (b : BV) (L : List S46), cs = b.cells.toList ∧ b.n4 = L.length ∧ k46.C W b.A4 b.n4 L := by
  obtain ⟨_, _, rfl, ⟨A0, c0, rfl, _, _⟩, ⟨_, _, rfl, rfl, ⟨_, _, rfl, ⟨A2, c2, rfl, _, _⟩, ⟨_, _, rfl, ⟨A3, c3, rfl, _, _⟩, ⟨_, _, rfl, ⟨A4, c4, rfl, _, h4⟩, ⟨_, _, rfl, ⟨A5, c5, rfl, _, _⟩, ⟨_, _, rfl, ⟨A6, c6, rfl, _, _⟩, ⟨_, _, rfl, rfl, ⟨_, _, rfl, ⟨A8, c8, rfl, _, _⟩, ⟨_, _, rfl, ⟨A9, c9, rfl, _, _⟩, rfl⟩⟩⟩⟩⟩⟩⟩⟩⟩⟩ := h
  exact ⟨⟨A0, _, c0, _, A2, _, c2, A3, _, c3, A4, _, c4, A5, _, c5, A6, _, c6, _, A8, _, c8, A9, _, c9, _⟩, _, rfl, rfl, h4⟩

end Go.Proofs.YtmnjaihalajhcaaDoor.QPlanConds
