import Derived.Test.YtpkhdljlhdomlaaIxF
import Derived.Test.YtpkhdljlhdomlaaSG
/- Index: walks by hand; the conditions stand in each theorem. -/
namespace Go.Proofs.Ytpkhdljlhdomlaa.QIndexFinds
open Go.RowKit Go.Proofs.YtpkhdljlhdomlaaW.PrintWords Go.Proofs.YtpkhdljlhdomlaaW.PrintLast Go.Proofs.YtpkhdljlhdomlaaW.PrintMore
attribute [local go_sem] max2_int min2_int max_two min_two max_three min_three max_four min_four
set_option linter.unusedVariables false
set_option linter.unusedSimpArgs false
theorem enters1_ {P : Program} {f : FuncId} {fn : Func} {c : Code} (hf : P.funcs[f]? = some fn) (hname : (fn.name == "runtime.NumGoroutine") = false) (hb : fn.body = some c) (args : Array Value) (w : World) :
    (callFunc f args).run P w = .ok (.enter f args) w := by
  have h1 : fn.name ≠ "runtime.NumGoroutine" := by simpa using hname
  simp [callFunc, hf, h1, hb]
section
variable {α : Type} [Inhabited α] {enc : α → Value} {w0 W : World} {blk off : Nat} {dk : Array α}
theorem sw_heap (h : Go.Proofs.SW enc w0 blk off dk W) (k : Nat) (hk : k < w0.heap.size) (hne : k ≠ blk) : W.heap[k]? = w0.heap[k]? := by
  obtain ⟨n, os, rfl⟩ := h
  unfold Go.Proofs.sortWorld
  rw [Go.Sort.heap_grow_old _ _ (by simp; exact hk)]
  simp [Go.Sort.putRow, Go.Sort.mapBlock, Array.getElem?_modify, Ne.symm hne]
theorem sw_blk (h : Go.Proofs.SW enc w0 blk off dk W) {cur : Array Value} {e : TypeId} {fr : Nat × Nat} (hb : w0.heap[blk]? = some (.cells cur e fr)) : W.heap[blk]? = some (.cells (Go.Sort.putCells enc off dk cur) e fr) := by
  have hlt : blk < w0.heap.size := (Array.getElem?_eq_some_iff.1 hb).1
  obtain ⟨n, os, rfl⟩ := h
  unfold Go.Proofs.sortWorld
  rw [Go.Sort.heap_grow_old _ _ (by simp; exact hlt)]
  simp [Go.Sort.putRow, Go.Sort.mapBlock, Array.getElem?_modify, hb, Go.Sort.onCells]
theorem sw_bel (h : Go.Proofs.SW enc w0 blk off dk W) {B : Nat} (hB : B ≤ blk) (hB2 : B ≤ w0.heap.size) : RowKit.Below B w0 W := by
  have hh := fun k h1 h2 => sw_heap h k h1 h2
  have hl := h.le
  obtain ⟨n, os, rfl⟩ := h
  exact ⟨rfl, rfl, rfl, hl, fun k hk => hh k (by omega) (by omega)⟩
theorem put_take (enc : α → Value) (d : Array α) (cur : Array Value) (h : d.size ≤ cur.size) : (Go.Sort.putCells enc 0 d cur).toList.take d.size = d.toList.map enc := by
  apply List.ext_getElem
  · simp [Go.Sort.putCells]; omega
  · intro j h1 h2
    have hj : j < d.size := by simpa using h2
    simp [Go.Sort.putCells, hj]
end
theorem ins_zero (A : Option Addr) (c : Nat) (fv : Value) (w : World) : Calls Try.prog 33 #[.slice A 0 c, .int .i64 0, .int .i64 0, fv] w fun e w' => e = .returned (.tuple #[]) ∧ w' = w := by
  go_enter Try.func33, Try.ntmps33
  go_wp2
  go_loop [8] (fun s8 => s8 = .int .i64 1) (fun _ => 0)
  case atStart => rfl
  case round =>
    obtain rfl := hrel
    go_wp2
    go_end0
    exact ⟨rfl, rfl⟩
theorem stb_zero (A : Option Addr) (c : Nat) (fv : Value) (w : World) : Calls Try.prog 32 #[.slice A 0 c, .int .i64 0, fv] w fun e w' => e = .returned (.tuple #[]) ∧ w' = w := by
  go_enter Try.func32, Try.ntmps32
  go_wp2
  go_loop [7, 8] (fun s7 s8 => s7 = .int .i64 0 ∧ s8 = .int .i64 20) (fun _ _ => 0)
  case atStart => exact ⟨rfl, rfl⟩
  case round =>
    obtain ⟨rfl, rfl⟩ := hrel
    go_wp2_with (go_at_call 33; refine (ins_zero _ _ _ _).mono ?_; rintro e w' ⟨rfl, rfl⟩)
    go_loop [6] (fun s6 => s6 = .int .i64 20) (fun _ => 0)
    case atStart => rfl
    case round =>
      obtain rfl := hrel
      go_wp2
      go_end0
      exact ⟨rfl, rfl⟩
theorem ssf_zero (A : Option Addr) (c : Nat) (fv : Value) (w : World) : Calls Try.prog 25 #[.slice A 0 c, fv] w fun e w' => e = .returned (.tuple #[]) ∧ w' = w := by
  go_enter Try.func25, Try.ntmps25
  go_wp2_with (go_at_call 32; refine (stb_zero _ _ _ _).mono ?_; rintro e w' ⟨rfl, rfl⟩)
  go_end0
  exact ⟨rfl, rfl⟩

theorem extr_all {α : Type} (d : Array α) (n : Nat) (h : d.size = n) : d.extract 0 n = d := by subst h; exact Array.extract_size
theorem places_nodup (n : Nat) : (places n).Nodup := by
  unfold places
  refine List.pairwise_map.2 ((List.nodup_range (n := n)).imp (fun h e => h (by omega)))
def atV (L : List S24) (i : Int) : S24 := rd_T24 L i
def before (L : List S24) (i j : Int) : Prop := cVs (rd_T24 L i) (rd_T24 L j) < 0 ∨ (cVs (rd_T24 L i) (rd_T24 L j) = 0 ∧ i < j)
def Srt (L : List S24) (S : List Int) : Prop := S.Perm (places L.length) ∧ S.Pairwise (before L)
theorem places_len (n : Nat) : (places n).length = n := by unfold places; rw [List.length_map, List.length_range]
theorem places_at (n j : Nat) (h : j < n) : (places n)[j]'(by rw [places_len]; exact h) = (j : Int) := by simp [places]
def fe {n : Nat} (i : Fin n) : Value := .int .i64 (i.1 : Int)
def fc {n : Nat} (L : List S24) (i k : Fin n) : Int := cVs (rd_T24 L (i.1 : Int)) (rd_T24 L (k.1 : Int))
def fl {n : Nat} (L : List S24) (i k : Fin n) : Bool := decide (fc L i k < 0 ∨ (fc L i k = 0 ∧ i.1 < k.1))
theorem fl_swo {n : Nat} (L : List S24) : Go.Sort.SWO (@fl n L) where
  irrefl x := decide_eq_false (by have := (ordVs.eq0 (rd_T24 L (x.1 : Int)) (rd_T24 L (x.1 : Int))).2 rfl; unfold fc; omega)
  trans x y z h1 h2 := by
    have h1 := of_decide_eq_true h1
    have h2 := of_decide_eq_true h2
    refine decide_eq_true ?_
    unfold fc at *
    rcases h1 with h1 | ⟨h1, h1'⟩
    · exact .inl (ordVs.strict h1 (by rcases h2 with h2 | ⟨h2, _⟩ <;> omega))
    · have e := (ordVs.eq0 _ _).1 h1
      rw [e]
      rcases h2 with h2 | ⟨h2, h2'⟩
      · exact .inl h2
      · exact .inr ⟨h2, by omega⟩
  ntrans x y z h1 h2 := by
    have h1 : ¬ (fc L x y < 0 ∨ (fc L x y = 0 ∧ x.1 < y.1)) := of_decide_eq_false h1
    have h2 : ¬ (fc L y z < 0 ∨ (fc L y z = 0 ∧ y.1 < z.1)) := of_decide_eq_false h2
    refine decide_eq_false ?_
    unfold fc at *
    generalize hX : rd_T24 L (x.1 : Int) = X at *
    generalize hY : rd_T24 L (y.1 : Int) = Y at *
    generalize hZ : rd_T24 L (z.1 : Int) = Z at *
    have a1 := ordVs.anti X Y
    have a2 := ordVs.anti Y Z
    have a3 := ordVs.anti X Z
    rintro (h | ⟨h, h'⟩)
    · have := ordVs.trans Z Y X (by omega) (by omega)
      omega
    · have e := (ordVs.eq0 _ _).1 h
      subst e
      by_cases c : cVs X Y = 0
      · have := (ordVs.eq0 _ _).1 c
        subst this
        rw [c] at h1
        omega
      · omega
theorem fe_one {n : Nat} : Go.Proofs.OneCell (@fe n) := fun _ => rfl
structure Env (w : World) (b4 b5 p g : Nat) (ad : Addr) (n c : Nat) (v1 v2 : Value) (L : List S24) : Prop where
  h5 : w.heap[b5]? = some (.cells #[.func (.func 11) #[] #[]] 36 (0, 0))
  h4 : w.heap[b4]? = some (.cells #[.func (.func 17) #[] #[.pointer (some ⟨p, 0, none⟩)]] 40 (0, 0))
  hp : w.heap[p]? = some (.cells #[.pointer (some ⟨g, 0, none⟩)] 27 (0, 0))
  hg : w.heap[g]? = some (.cells #[.slice (some ad) n c, v1, v2] 44 (0, 0))
  hc : k24.C w (some ad) n L
theorem C_blocks {w w1 : World} {ad : Addr} {n : Nat} {L : List S24} (hc : k24.C w (some ad) n L) (hm : w1.heap[ad.block]? = w.heap[ad.block]?) : k24.C w1 (some ad) n L := by
  refine ⟨hc.1, hc.2.1, fun hpos => ?_⟩
  obtain ⟨ad', e, h⟩ := hc.2.2 hpos
  cases e
  refine ⟨_, rfl, fun j q hj => ?_⟩
  obtain ⟨cs, h1, h2, h3⟩ := h j q hj
  refine ⟨cs, h1, h2, fun i u hu => (World.cell?_of_block (a := ad.add (j * k24.sz + i)) ?_).trans (h3 i u hu)⟩
  have e : (ad.add (j * k24.sz + i)).block = ad.block := by unfold Addr.add; split <;> rfl
  rw [e]
  exact hm
set_option maxHeartbeats 2000000 in
theorem ssf_ints (w1 : World) (b0 : Nat) (ok : Nat → Prop) (vs : Value) (b4 b5 p g : Nat) (ad : Addr) (n c : Nat) (v1 v2 : Value) (L : List S24) (hn : 0 < n) (hn2 : n < 1152921504606846976) (hE : Env w1 b4 b5 p g ad n c v1 v2 L) (hR : kI.R 3 w1 b0 ok vs (places n)) (h1 : ¬ ok b4) (h2 : ¬ ok b5) (h3 : ¬ ok p) (h4 : ¬ ok g) (h5 : ¬ ok ad.block) (hln : L.length = n) :
    Calls Try.prog 25 #[vs, .func (.func 26) #[] #[.pointer (some ⟨b5, 0, none⟩), .pointer (some ⟨b4, 0, none⟩)]] w1 fun e w' => e = .returned (.tuple #[]) ∧ ∃ S, Srt L S ∧ kI.R 3 w' b0 ok vs S ∧ w1.grownBy w' vs.ownBlock := by
  haveI : Inhabited (Fin n) := ⟨⟨0, hn⟩⟩
  have hpl := places_len n
  obtain ⟨hok0, inner, ho, hr⟩ := hR
  obtain ⟨ho1, ho2⟩ := ho
  rcases ho2 with ⟨_, hz⟩ | ⟨q, cap, cur, rfl, hq, hh, hnc, hcm, hcs, ht⟩
  · omega
  have hsz : kI.sz = 1 := rfl
  rw [hsz, Nat.mul_one] at ho1 ht hcs
  rw [hpl] at ho1 ht
  rw [hpl] at hnc
  have hokq : ok q := hok0 q rfl
  have hM : ∀ j (hj : j < n), inner[j]'(by omega) = .int .i64 (j : Int) := by
    intro j hj
    have hv := hr.2 j (j : Int) (by rw [List.getElem?_eq_getElem (by omega), places_at n j hj])
    rw [hsz, Nat.mul_one] at hv
    have e : (inner.drop j).take 1 = [inner[j]'(by omega)] := by
      rw [List.drop_eq_getElem_cons (by omega)]
      rfl
    rw [e] at hv
    injection hv
  obtain ⟨d, hd⟩ : ∃ d : Array (Fin n), d = Array.ofFn (fun j : Fin n => j) := ⟨_, rfl⟩
  have hds : d.size = n := by rw [hd]; exact Array.size_ofFn
  have hdj : ∀ j (hj : j < n), d[j]! = ⟨j, hj⟩ := by
    intro j hj
    rw [getElem!_pos d j (by omega)]
    subst hd
    exact Array.getElem_ofFn (by rw [hds]; exact hj)
  have hci : ∀ j (hj : j < n), cur[j]? = some (.int .i64 (j : Int)) := by
    intro j hj
    have e1 : (cur.toList.take n)[j]? = some (inner[j]'(by omega)) := by rw [ht, List.getElem?_eq_getElem (by omega)]
    rw [List.getElem?_take, if_pos hj, Array.getElem?_toList] at e1
    rw [e1, hM j hj]
  have hblk : q < w1.heap.size := (Array.getElem?_eq_some_iff.1 hh).1
  have hH : Go.Sort.Holds fe (redrawn w1 0) q 0 d := by
    intro j hj
    rw [hdj j (by omega)]
    refine ⟨?_, ?_⟩
    · show w1.cell? _ = _
      rw [Nat.zero_add, cell_of_row w1 q j cur 3 (0, 0) hh]
      exact hci j (by omega)
    · show w1.frozen? _ = _
      exact blk_frozen hh _
  have hSW : Go.Proofs.SW fe (redrawn w1 0) q 0 d w1 := QSort.sw_belowOn (Go.Proofs.SW.start hH) ⟨rfl⟩ ⟨rfl, rfl, rfl, Nat.le_refl _, fun _ _ => rfl⟩
  have ne4 : b4 ≠ q := fun e => h1 (e ▸ hokq)
  have ne5 : b5 ≠ q := fun e => h2 (e ▸ hokq)
  have nep : p ≠ q := fun e => h3 (e ▸ hokq)
  have neg : g ≠ q := fun e => h4 (e ▸ hokq)
  have nea : ad.block ≠ q := fun e => h5 (e ▸ hokq)
  have hal : ad.block < w1.heap.size := by
    obtain ⟨ad', e, h0, _⟩ := at_row hE.hc 0 hn
    cases e
    exact World.block_lt_of_cell? w1 _ h0
  have hcmp : QSort.CmpB Try.prog 26 #[.pointer (some ⟨b5, 0, none⟩), .pointer (some ⟨b4, 0, none⟩)] (@fe n) (fc L) q 0 d.size (redrawn w1 0) := by
    intro m os dk hs x y
    have hW : ∀ k, k < w1.heap.size → k ≠ q → (Go.Proofs.sortWorld fe (redrawn w1 0) q 0 m dk os).heap[k]? = w1.heap[k]? := fun k h1 h2 => sw_heap (w0 := redrawn w1 0) ⟨m, os, rfl⟩ k h1 h2
    exact cmp26 _ b4 b5 p g ad n c v1 v2 L ((hW b5 (blk_lt hE.h5) ne5).trans hE.h5) ((hW b4 (blk_lt hE.h4) ne4).trans hE.h4) ((hW p (blk_lt hE.hp) nep).trans hE.hp) ((hW g (blk_lt hE.hg) neg).trans hE.hg) (C_blocks hE.hc (hW _ hal nea)) x.1 y.1 x.2 y.2
  rw [show (places n).length = n from hpl]
  refine (QSort.so_SortStable fe (fc L) 26 #[.pointer (some ⟨b5, 0, none⟩), .pointer (some ⟨b4, 0, none⟩)] q 0 cap n d (redrawn w1 0) w1 (fl L) (fun x y => x.1 < y.1) (enters1_ Try.func26 (by kernel_rfl) rfl) ⟨rfl⟩ hcmp ⟨fe_one, hH, hblk⟩ hSW hn2 (fl_swo L) ?_ hds ?_).mono ?_
  · intro x y hxy
    unfold Go.Proofs.ltOf fl
    congr 1
    simp only [eq_iff_iff]
    omega
  · intro a b hab hb
    rw [hdj a (by omega), hdj b hb]
    exact hab
  rintro e w2 ⟨rfl, d', hS2, hs2, hP, hSo⟩
  have hperm : (d'.toList.map (fun i => (i.1 : Int))).Perm (places n) := by
    have h6 := hP.2.2
    have e1 : d'.extract 0 n = d' := extr_all d' n hs2
    have e2 : d.extract 0 n = d := extr_all d n hds
    rw [e1, e2] at h6
    have e3 : d.toList.map (fun i => (i.1 : Int)) = places n := by
      apply List.ext_getElem
      · simp [hds, hpl]
      · intro j ha hb
        have hjn : j < n := by rw [hpl] at hb; exact hb
        have := hdj j hjn
        rw [getElem!_pos d j (by omega)] at this
        rw [places_at n j hjn]
        simp [this]
    have h7 := h6.map (fun i : Fin n => (i.1 : Int))
    rw [e3] at h7
    exact h7
  have hnd := hperm.nodup_iff.2 (places_nodup n)
  refine ⟨rfl, d'.toList.map (fun i => (i.1 : Int)), ⟨by rw [hln]; exact hperm, ?_⟩, ⟨?_, ?_, ?_, ?_⟩, ?_⟩
  · rw [List.pairwise_map, List.pairwise_iff_getElem]
    intro i j hi hj hij
    have hj' : j < d'.size := by simpa using hj
    have h6 : ¬ (fc L d'[j]! d'[i]! < 0 ∨ (fc L d'[j]! d'[i]! = 0 ∧ (d'[j]!).1 < (d'[i]!).1)) := of_decide_eq_false (hSo i j (Nat.zero_le _) hij (by omega))
    rw [getElem!_pos d' j hj', getElem!_pos d' i (by omega)] at h6
    have hne2 : (d'[i]'(by omega)).1 ≠ (d'[j]'hj').1 := by
      have := (List.pairwise_iff_getElem.1 hnd) i j (by simpa using hi) (by simpa using hj) hij
      intro e
      apply this
      simp [e]
    simp only [Array.getElem_toList]
    unfold before fc at *
    have a1 := ordVs.anti (rd_T24 L ((d'[i]'(by omega)).1 : Int)) (rd_T24 L ((d'[j]'hj').1 : Int))
    omega
  · exact hok0
  · exact d'.toList.map fe
  · refine ⟨by rw [hsz]; simp [hs2], .inr ⟨q, cap, _, ?_, hq, sw_blk hS2 (cur := cur) hh, ?_, hcm, ?_, ?_⟩⟩
    · simp [hs2, hpl]
    · simpa [hs2] using hnc
    · rw [hsz, Nat.mul_one]; simp [Go.Sort.putCells, hcs]
    · rw [hsz, Nat.mul_one]
      have := put_take fe d' cur (by omega)
      simpa [hs2] using this
  · refine ⟨by rw [hsz]; simp, fun j y hj => ?_⟩
    have hjl : j < d'.size := by have := (List.getElem?_eq_some_iff.1 hj).1; simpa using this
    have hy : ((d'[j]).1 : Int) = y := by
      have := (List.getElem?_eq_some_iff.1 hj).2
      simpa using this
    rw [hsz, Nat.mul_one, List.drop_eq_getElem_cons (by simpa using hjl)]
    show _ = _
    simp [← hy, fe]
  · have hbel := sw_bel hS2 (B := 0) (Nat.zero_le _) (Nat.zero_le _)
    refine ⟨hbel.os, hbel.tape, hbel.output, hbel.size, fun k hk hne => sw_heap hS2 k hk (fun e => hne (by rw [e]; rfl))⟩

end Go.Proofs.Ytpkhdljlhdomlaa.QIndexFinds
