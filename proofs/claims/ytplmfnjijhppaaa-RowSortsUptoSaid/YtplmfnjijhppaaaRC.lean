import Derived.Test.YtplmfnjijhppaaaRC0
import Derived.Test.YtplmfnjijhppaaaRB
import Derived.Test.YtplmfnjijhppaaaSG
/- Row's sort, and the laws over it: walks by hand; the conditions stand in each theorem. -/
namespace Go.Proofs.Ytplmfnjijhppaaa.QRowSorts
open Go.RowKit Go.Proofs.YtplmfnjijhppaaaW.PrintWords Go.Proofs.YtplmfnjijhppaaaW.PrintLast Go.Proofs.YtplmfnjijhppaaaW.PrintMore
attribute [local go_sem] max2_int min2_int max_two min_two max_three min_three max_four min_four
set_option linter.unusedVariables false
set_option linter.unusedSimpArgs false
theorem enters_ {P : Program} {f : FuncId} {fn : Func} {c : Code} (hf : P.funcs[f]? = some fn) (hname : (fn.name == "runtime.NumGoroutine") = false) (hb : fn.body = some c) (args : Array Value) (w : World) :
    (callFunc f args).run P w = .ok (.enter f args) w := by
  have h1 : fn.name ≠ "runtime.NumGoroutine" := by simpa using hname
  simp [callFunc, hf, h1, hb]
section
variable {α : Type} [Inhabited α] {enc : α → Value} {w0 W : World} {blk off : Nat} {dk : Array α}
theorem sw_heap (h : Go.Proofs.SW enc w0 blk off dk W) (k : Nat) (hk : k < w0.heap.size) (hne : k ≠ blk) : W.heap[k]? = w0.heap[k]? := by
  obtain ⟨n, os, rfl⟩ := h
  unfold Go.Proofs.sortWorld
  rw [Go.Sort.heap_grow_old _ _ (by simp; exact hk)]
  simp [Go.Sort.putRow, Go.Sort.mapBlock, Array.getElem?_modify, Ne.symm hne]
theorem sw_blk (h : Go.Proofs.SW enc w0 blk off dk W) {cur : Array Value} {e : TypeId} {fr : Nat × Nat} (hb : w0.heap[blk]? = some (.cells cur e fr)) : W.heap[blk]? = some (.cells (Go.Sort.putCells enc off dk cur) e fr) := by
  have hlt : blk < w0.heap.size := (Array.getElem?_eq_some_iff.1 hb).1
  obtain ⟨n, os, rfl⟩ := h
  unfold Go.Proofs.sortWorld
  rw [Go.Sort.heap_grow_old _ _ (by simp; exact hlt)]
  simp [Go.Sort.putRow, Go.Sort.mapBlock, Array.getElem?_modify, hb, Go.Sort.onCells]
theorem sw_bel (h : Go.Proofs.SW enc w0 blk off dk W) {B : Nat} (hB : B ≤ blk) (hB2 : B ≤ w0.heap.size) : RowKit.Below B w0 W := by
  have hh := fun k h1 h2 => sw_heap h k h1 h2
  have hl := h.le
  obtain ⟨n, os, rfl⟩ := h
  exact ⟨rfl, rfl, rfl, hl, fun k hk => hh k (by omega) (by omega)⟩
theorem put_take (enc : α → Value) (d : Array α) (cur : Array Value) (h : d.size ≤ cur.size) : (Go.Sort.putCells enc 0 d cur).toList.take d.size = d.toList.map enc := by
  apply List.ext_getElem
  · simp [Go.Sort.putCells]; omega
  · intro j h1 h2
    have hj : j < d.size := by simpa using h2
    simp [Go.Sort.putCells, hj]
end
/- An element of the sorted row: a slice of the call's own, and what it holds. -/
def SE (w : World) (B g : Nat) : Type := {p : Value × List S36 // Kd.R k36 36 w B (fun k => k ≠ g) p.1 p.2}
instance instSE (w : World) (B g : Nat) : Inhabited (SE w B g) := ⟨⟨(.slice none 0 0, []), Kd.R_nil _ _ _ _ _⟩⟩
def seMk {w : World} {B g : Nat} (v : Value) (l : List S36) (h : Kd.R k36 36 w B (fun k => k ≠ g) v l) : SE w B g := ⟨(v, l), h⟩
def seE {w : World} {B g : Nat} (x : SE w B g) : Value := x.1.1
def seL {w : World} {B g : Nat} (x : SE w B g) : List S36 := x.1.2
theorem se_one {w : World} {B g : Nat} : Go.Proofs.OneCell (@seE w B g) := fun x => by
  obtain ⟨A, c, he⟩ := Kd.R_slice x.2
  show x.1.1.oneCell' = true
  rw [he]
  rfl
theorem se_move {w : World} {B g : Nat} (x : SE w B g) {W : World} (h : ∀ k, k < w.heap.size → k ≠ g → W.heap[k]? = w.heap[k]?) : Kd.R k36 36 W B (fun k => k ≠ g) (seE x) (seL x) :=
  Kd.R_step x.2 (fun k h1 h2 => h k h2 h1)
def seC {w : World} {B g : Nat} (x y : SE w B g) : Int := cmpR (seL x) (seL y)
theorem se_swo {w : World} {B g : Nat} : Go.Sort.SWO (Go.Proofs.ltOf (@seC w B g)) where
  irrefl x := decide_eq_false (by have := (ordR.eq0 (seL x) (seL x)).2 rfl; unfold seC; omega)
  trans x y z h1 h2 := by
    have h1 := of_decide_eq_true h1
    have h2 := of_decide_eq_true h2
    exact decide_eq_true (ordR.strict h1 (by unfold seC at h2; omega))
  ntrans x y z h1 h2 := by
    have h1 : ¬ cmpR (seL x) (seL y) < 0 := of_decide_eq_false h1
    have h2 : ¬ cmpR (seL y) (seL z) < 0 := of_decide_eq_false h2
    have a1 := ordR.anti (seL x) (seL y)
    have a2 := ordR.anti (seL y) (seL z)
    have a3 := ordR.anti (seL x) (seL z)
    have := ordR.trans (seL z) (seL y) (seL x) (by omega) (by omega)
    exact decide_eq_false (by unfold seC; omega)
theorem se_cmp (w1 : World) (B g n : Nat) : QSort.CmpB Try.prog 18 #[] (@seE w1 B g) seC g 0 n (redrawn w1 0) := by
  intro m os dk hs x y
  have hW : ∀ k, k < w1.heap.size → k ≠ g → (Go.Proofs.sortWorld seE (redrawn w1 0) g 0 m dk os).heap[k]? = w1.heap[k]? := fun k h1 h2 => sw_heap (w0 := redrawn w1 0) ⟨m, os, rfl⟩ k h1 h2
  obtain ⟨A, c, he, hc, hr⟩ := Kd.R_reads (se_move x hW)
  obtain ⟨A', c', he', hc', hr'⟩ := Kd.R_reads (se_move y hW)
  rw [he, he']
  exact row_Compare.calls A c (seL x) A' c' (seL y) (cmpR (seL x) (seL y)) _ hr hc hr' hc' rfl
theorem ins_zero (A : Option Addr) (c : Nat) (fv : Value) (w : World) : Calls Try.prog 46 #[.slice A 0 c, .int .i64 0, .int .i64 0, fv] w fun e w' => e = .returned (.tuple #[]) ∧ w' = w := by
  go_enter Try.func46, Try.ntmps46
  go_wp2
  go_loop [8] (fun s8 => s8 = .int .i64 1) (fun _ => 0)
  case atStart => rfl
  case round =>
    obtain rfl := hrel
    go_wp2
    go_end0
    exact ⟨rfl, rfl⟩
theorem stb_zero (A : Option Addr) (c : Nat) (fv : Value) (w : World) : Calls Try.prog 42 #[.slice A 0 c, .int .i64 0, fv] w fun e w' => e = .returned (.tuple #[]) ∧ w' = w := by
  go_enter Try.func42, Try.ntmps42
  go_wp2
  go_loop [7, 8] (fun s7 s8 => s7 = .int .i64 0 ∧ s8 = .int .i64 20) (fun _ _ => 0)
  case atStart => exact ⟨rfl, rfl⟩
  case round =>
    obtain ⟨rfl, rfl⟩ := hrel
    go_wp2_with (go_at_call 46; refine (ins_zero _ _ _ _).mono ?_; rintro e w' ⟨rfl, rfl⟩)
    go_loop [6] (fun s6 => s6 = .int .i64 20) (fun _ => 0)
    case atStart => rfl
    case round =>
      obtain rfl := hrel
      go_wp2
      go_end0
      exact ⟨rfl, rfl⟩
theorem ssf_zero (A : Option Addr) (c : Nat) (fv : Value) (w : World) : Calls Try.prog 34 #[.slice A 0 c, fv] w fun e w' => e = .returned (.tuple #[]) ∧ w' = w := by
  go_enter Try.func34, Try.ntmps34
  go_wp2_with (go_at_call 42; refine (stb_zero _ _ _ _).mono ?_; rintro e w' ⟨rfl, rfl⟩)
  go_end0
  exact ⟨rfl, rfl⟩
/- The sort of a row of rows of the call's own. -/
theorem ssf_rows (w1 : World) (B : Nat) (v : Value) (l : List (List S36)) (hR : Kd.R (Kd.slice 36 k36) 22 w1 B (fun _ => True) v l) (hl : l.length < 1152921504606846976) :
    Calls Try.prog 34 #[v, .func (.func 18) #[] #[]] w1 fun e w' => e = .returned (.tuple #[]) ∧ Kd.R (Kd.slice 36 k36) 22 w' B (fun _ => True) v (sortR l) ∧ RowKit.Below B w1 w' := by
  by_cases h0 : l = []
  · subst h0
    obtain ⟨A, c, rfl⟩ := Kd.R_slice hR
    refine (ssf_zero A c _ w1).mono ?_
    rintro e w' ⟨rfl, rfl⟩
    refine ⟨rfl, ?_, Below.refl _ _⟩
    have : sortR ([] : List (List S36)) = [] := by
      have := (sortR_perm ([] : List (List S36))).length_eq
      exact List.length_eq_zero_iff.1 this
    rw [this]
    exact hR
  · have hpos : 0 < l.length := List.length_pos_iff.2 h0
    obtain ⟨_, inner, ho, hr⟩ := hR
    obtain ⟨ho1, ho2⟩ := ho
    rcases ho2 with ⟨_, hn⟩ | ⟨g, cap, cur, rfl, hg, hh, hnc, hcm, hcs, ht⟩
    · omega
    have hsz : (Kd.slice 36 k36).sz = 1 := rfl
    rw [hsz, Nat.mul_one] at ho1 ht hcs
    have hM : ∀ j (hj : j < l.length), Kd.R k36 36 w1 B (fun k => k ≠ g) (inner[j]'(by omega)) l[j] := by
      intro j hj
      obtain ⟨v', hv, hR'⟩ := hr.2 j l[j] (List.getElem?_eq_getElem hj)
      rw [hsz, Nat.mul_one] at hv
      have e : (inner.drop j).take 1 = [inner[j]'(by omega)] := by
        rw [List.drop_eq_getElem_cons (by omega)]
        rfl
      rw [e] at hv
      injection hv with hv
      rw [hv]
      exact Kd.R_mono hR' (fun k hk he => hk.2 (by rw [he]; rfl))
    obtain ⟨d, hd⟩ : ∃ d : Array (SE w1 B g), d = Array.ofFn (fun j : Fin l.length => seMk (inner[j.1]'(by omega)) l[j.1] (hM j.1 j.2)) := ⟨_, rfl⟩
    have hds : d.size = l.length := by rw [hd]; exact Array.size_ofFn
    have hdj : ∀ j (hj : j < l.length), seE d[j]! = inner[j]'(by omega) ∧ seL d[j]! = l[j] := by
      intro j hj
      rw [getElem!_pos d j (by omega)]
      subst hd
      exact ⟨congrArg seE (Array.getElem_ofFn (by rw [hds]; exact hj)), congrArg seL (Array.getElem_ofFn (by rw [hds]; exact hj))⟩
    have hci : ∀ j (hj : j < l.length), cur[j]? = some (inner[j]'(by omega)) := by
      intro j hj
      have e1 : (cur.toList.take l.length)[j]? = some (inner[j]'(by omega)) := by rw [ht, List.getElem?_eq_getElem (by omega)]
      rw [List.getElem?_take, if_pos hj, Array.getElem?_toList] at e1
      exact e1
    have hblk : g < w1.heap.size := (Array.getElem?_eq_some_iff.1 hh).1
    have hH : Go.Sort.Holds seE (redrawn w1 0) g 0 d := by
      intro j hj
      rw [(hdj j (by omega)).1]
      refine ⟨?_, ?_⟩
      · show w1.cell? _ = _
        rw [Nat.zero_add, cell_of_row w1 g j cur 22 (0, 0) hh]
        exact hci j (by omega)
      · show w1.frozen? _ = _
        exact blk_frozen hh _
    have hSW : Go.Proofs.SW seE (redrawn w1 0) g 0 d w1 := QSort.sw_belowOn (Go.Proofs.SW.start hH) ⟨rfl⟩ ⟨rfl, rfl, rfl, Nat.le_refl _, fun _ _ => rfl⟩
    have hcmp := se_cmp w1 B g l.length
    rw [← hds] at hcmp
    refine (QSort.so_SortStable seE seC 18 #[] g 0 cap l.length d (redrawn w1 0) w1 (Go.Proofs.ltOf seC) (fun _ _ => True) (enters_ Try.func18 (by kernel_rfl) rfl) ⟨rfl⟩ hcmp ⟨se_one, hH, hblk⟩ hSW hl se_swo (fun _ _ _ => rfl) hds (fun _ _ _ _ => trivial)).mono ?_
    rintro e w2 ⟨rfl, d', hS2, hs2, hP, hSo⟩
    have hB0 : B ≤ w1.heap.size := by omega
    refine ⟨rfl, ?_, ?_⟩
    · have hperm : (d'.toList.map seL).Perm l := by
        have h3 := hP.2.2
        have e1 : d'.extract 0 l.length = d' := by rw [← hs2]; exact Array.extract_size
        have e2 : d.extract 0 l.length = d := by rw [← hds]; exact Array.extract_size
        rw [e1, e2] at h3
        have e3 : d.toList.map seL = l := by
          apply List.ext_getElem
          · simp [hds]
          · intro j h1 h2
            have := (hdj j h2).2
            rw [getElem!_pos d j (by omega)] at this
            simpa using this
        have h4 := h3.map seL
        rw [e3] at h4
        exact h4
      have hsorted : (d'.toList.map seL).Pairwise (fun x y => cmpR x y ≤ 0) := by
        rw [List.pairwise_iff_getElem]
        intro i j hi hj hij
        have hj' : j < d'.size := by simpa using hj
        have h3 : ¬ cmpR (seL d'[j]!) (seL d'[i]!) < 0 := of_decide_eq_false (hSo i j (Nat.zero_le _) hij (by omega))
        have h4 := ordR.anti (seL d'[j]!) (seL d'[i]!)
        rw [getElem!_pos d' j hj', getElem!_pos d' i (by omega)] at h3 h4
        simp only [List.getElem_map, Array.getElem_toList]
        omega
      rw [← sortR_unique hperm hsorted]
      have hlen : (d'.toList.map seL).length = l.length := by simp [hs2]
      have hW : ∀ k, k < w1.heap.size → k ≠ g → w2.heap[k]? = w1.heap[k]? := fun k h1 h2 => sw_heap hS2 k h1 h2
      refine ⟨fun _ _ => trivial, d'.toList.map seE, ⟨by rw [hlen, hsz]; simp [hs2], .inr ⟨g, cap, _, by rw [hlen], hg, sw_blk hS2 (cur := cur) hh, by rw [hlen]; exact hnc, hcm, by rw [hsz, Nat.mul_one]; simp [Go.Sort.putCells, hcs], ?_⟩⟩, ?_, ?_⟩
      · rw [hlen, hsz, Nat.mul_one, ← hs2]
        exact put_take seE d' cur (by omega)
      · rw [hsz]; simp
      · intro j p hj
        have hjl : j < d'.size := by have := (List.getElem?_eq_some_iff.1 hj).1; simpa using this
        have hp : seL d'[j] = p := by
          have := (List.getElem?_eq_some_iff.1 hj).2
          simpa using this
        rw [hsz, Nat.mul_one, List.drop_eq_getElem_cons (by simpa using hjl)]
        refine ⟨seE d'[j], by simp, ?_⟩
        rw [← hp]
        exact Kd.R_mono (se_move d'[j] hW) (fun k hk => ⟨trivial, fun he => hk (by injection he)⟩)
    · exact (show RowKit.Below B w1 (redrawn w1 0) from ⟨rfl, rfl, rfl, Nat.le_refl _, fun _ _ => rfl⟩).trans (sw_bel hS2 hg hB0)

def row_Sort.f (k : Nat) (l0 : List (List (S36))) : Option (List (List (S36))) := (row_clone.f k l0).bind fun l => if l.length < 1152921504606846976 then some (sortR l) else none
theorem row_Sort.calls (k : Nat) (A0 : Option Addr) (c0 : Nat) (l0 : List (List (S36))) (r : List (List (S36))) (w : World) (hr0 : Kd.C (Kd.slice 36 k36) w A0 l0.length l0) (hc0 : l0.length ≤ c0) (h : row_Sort.f k l0 = some r) :
    Calls Try.prog 21 #[.slice A0 l0.length c0] w fun e w' => ∃ v0_ : Value, e = .returned (v0_) ∧ Kd.R (Kd.slice 36 k36) 22 w' w.heap.size (fun _ => True) v0_ r ∧ RowKit.Below w.heap.size w w' := by
  obtain ⟨l, h1, h2⟩ := Option.bind_eq_some_iff.1 h
  have hl : l.length < 1152921504606846976 := by
    by_cases hl : l.length < 1152921504606846976
    · exact hl
    · rw [if_neg hl] at h2; cases h2
  rw [if_pos hl] at h2
  obtain rfl := Option.some.inj h2
  have H1 := Aside0.mk (row_clone.calls k A0 c0 l0 l w hr0 hc0 h1)
  have HL := Aside0.mk hl
  clear hr0 hc0 h h1 h2 hl
  go_enter Try.func21, Try.ntmps21
  go_wp2_with (first | (go_at_call 33; refine H1.out.mono ?_; rintro e w1 ⟨v1, rfl, hS, hb⟩; have HS := Aside0.mk (Kd.S_R hS); have HB := Aside0.mk hb; clear hS hb) | (go_at_call 34; refine (ssf_rows _ _ _ l HS.out HL.out).mono ?_; rintro e w2 ⟨rfl, hR, hb⟩; have HR := Aside0.mk hR; have HB2 := Aside0.mk (HB.out.trans hb); clear hR hb HS HB))
  go_ret
  exact ⟨_, rfl, HR.out, HB2.out⟩

end Go.Proofs.Ytplmfnjijhppaaa.QRowSorts
