import Derived.Test.YtmnjaihalajhcaaDoorPlY
import Derived.Test.YtmnjaihalajhcaaDoorPlM
/- Plan: walks by hand; the conditions stand in each theorem. -/
namespace Go.Proofs.YtmnjaihalajhcaaDoor.QPlanConds
open Go.RowKit Go.Proofs.YtmnjaihalajhcaaDoorW.PrintWords Go.Proofs.YtmnjaihalajhcaaDoorW.PrintLast Go.Proofs.YtmnjaihalajhcaaDoorW.PrintMore
attribute [local go_sem] max2_int min2_int max_two min_two max_three min_three max_four min_four
set_option linter.unusedVariables false
set_option linter.unusedSimpArgs false
theorem bld_below {T e B b : Nat} {bs : List Value} {w w' : World} (h : Lib.IsBuilderF T e B b bs w) (hb : Below w.heap.size w w') : Lib.IsBuilderF T e B b bs w' := by
  have one : ∀ p, Lib.BuilderAtF T e B b p bs w → Lib.BuilderAtF T e B b p bs w' := by
    rintro p ⟨h1, v, h2, h3, h4⟩
    refine ⟨h1, v, (hb.block b (blk_lt h2)).trans h2, ?_, h4⟩
    obtain ⟨h5, h6 | ⟨g, cap, cur, fz, h6, h7, h8, h9⟩⟩ := h3
    · exact ⟨h5, .inl h6⟩
    · exact ⟨h5, .inr ⟨g, cap, cur, fz, h6, h7, (hb.block g (blk_lt h8)).trans h8, h9⟩⟩
  exact h.elim (fun x => .inl (one _ x)) (fun x => .inr (one _ x))
theorem oth_below {e : Nat} {b : Option Nat} {w w' : World} (hb : Below w.heap.size w w') : Lib.OthersKept e b w w' := fun k o h _ _ => (hb.block k (blk_lt h)).trans h
theorem oth_keep {b : Nat} {w w' : World} {k t : Nat} {cs : Array Value} (h : Lib.OthersKept 5 (some b) w w') (hk : w.heap[k]? = some (.cells cs t (0, 0))) (hkb : k ≠ b) (ht : t ≠ 5) : w'.heap[k]? = some (.cells cs t (0, 0)) :=
  h k _ hk (fun e => hkb (Option.some.inj e)) (fun c fz e => ht (by injection e))
/- The world while a text is put together: what came in (w0), the builder with what it holds, the three walks. -/
structure Et (w0 w : World) (bb gp gi gs : Nat) (acc : List UInt8) : Prop where
  low : Below w0.heap.size w0 w
  bd : Lib.IsBuilderF 66 5 bb bb (Lib.byteCells acc) w
  lb : w0.heap.size ≤ bb
  ltb : bb ≤ w.heap.size
  hP : w.heap[gp]? = some (.cells #[.func (.func 44) #[] #[pt gs, pt bb, pt gi]] 62 (0, 0))
  hI : w.heap[gi]? = some (.cells #[.func (.func 40) #[] #[pt bb, pt gp]] 62 (0, 0))
  hS : w.heap[gs]? = some (.cells #[.func (.func 42) #[] #[pt bb]] 72 (0, 0))
  n1 : gp ≠ bb
  n2 : gi ≠ bb
  n3 : gs ≠ bb
theorem Et.below {w0 w w' : World} {bb gp gi gs : Nat} {acc : List UInt8} (h : Et w0 w bb gp gi gs acc) (hb : Below w.heap.size w w') : Et w0 w' bb gp gi gs acc :=
  ⟨h.low.trans (hb.mono h.low.size), bld_below h.bd hb, h.lb, Nat.le_trans h.ltb hb.size, (hb.block gp (blk_lt h.hP)).trans h.hP, (hb.block gi (blk_lt h.hI)).trans h.hI, (hb.block gs (blk_lt h.hS)).trans h.hS, h.n1, h.n2, h.n3⟩
theorem Et.put {w0 w w' : World} {bb gp gi gs : Nat} {acc : List UInt8} {s : ByteArray} (h : Et w0 w bb gp gi gs acc) (hd : Lib.BuilderAtF 66 5 bb bb (.pointer (some ⟨bb, 0, none⟩)) (Lib.byteCells acc ++ Lib.strCells s) w') (hb : Below bb w w') (ho : Lib.OthersKept 5 (some bb) w w') : Et w0 w' bb gp gi gs (acc ++ s.data.toList) :=
  ⟨h.low.trans (hb.mono h.lb), .inr (by rw [Lib.byteCells_append, ← Lib.strCells_eq]; exact hd), h.lb, Nat.le_trans h.ltb hb.size, oth_keep ho h.hP h.n1 (by decide), oth_keep ho h.hI h.n2 (by decide), oth_keep ho h.hS h.n3 (by decide), h.n1, h.n2, h.n3⟩
/- A text written: what stands behind it. -/
theorem put41 {w0 w : World} {bb gp gi gs : Nat} {acc : List UInt8} (s : ByteArray) (h : Et w0 w bb gp gi gs acc) (hl : acc.length + s.size ≤ 140737488355328) :
    Calls Tryd.prog 41 #[pt bb, .string s] w fun e_ w' => (∃ v, e_ = .returned v) ∧ Et w0 w' bb gp gi gs (acc ++ s.data.toList) ∧ Lib.OthersKept 5 (some bb) w w' := by
  refine (wstr41 bb bb _ s w h.bd (by rw [Lib.byteCells_length]; exact hl) h.ltb).mono ?_
  rintro e_ w' ⟨rfl, hd, hb, ho⟩
  exact ⟨⟨_, rfl⟩, h.put hd hb ho, ho⟩
theorem say_size (b0 : UInt8) (l : List UInt8) : ((⟨#[b0]⟩ : ByteArray) ++ (⟨l.toArray⟩ : ByteArray)).size = 1 + l.length := by rw [ByteArray.size_append]; rfl
theorem say_list (b0 : UInt8) (l : List UInt8) : ((⟨#[b0]⟩ : ByteArray) ++ (⟨l.toArray⟩ : ByteArray)).data.toList = b0 :: l := by simp
/- Numbers whose text is told. -/
def HQ (Q : Int → Prop) (w0 : World) : Prop := ∀ n, Q n → ∀ w, Below w0.heap.size w0 w → Calls Tryd.prog 43 #[.int .i64 n] w fun e_ w' => e_ = .returned (.string ⟨(Lib.itoa n).toArray⟩) ∧ Below w.heap.size w w'
set_option maxRecDepth 8000 in
set_option maxHeartbeats 4000000 in
theorem say42 {Q : Int → Prop} {w0 w : World} {bb gp gi gs : Nat} {acc : List UInt8} (b0 : UInt8) (n : Int) (hq : HQ Q w0) (hn : Q n) (h : Et w0 w bb gp gi gs acc) (hl : acc.length + 1 + (Lib.itoa n).length ≤ 140737488355328) :
    Calls Tryd.prog 42 #[.string ⟨#[b0]⟩, .int .i64 n, pt bb] w fun e_ w' => e_ = .returned (.tuple #[]) ∧ Et w0 w' bb gp gi gs (acc ++ b0 :: Lib.itoa n) ∧ Lib.OthersKept 5 (some bb) w w' := by
  have HE := Aside0.mk h
  have HI := Aside0.mk (hq n hn)
  have HL := Aside0.mk hl
  have hsz : ¬ 9223372036854775807 < 1 + (Lib.itoa n).length := by omega
  clear h hq hn hl
  go_enter Tryd.func42, Tryd.ntmps42
  go_wp2_with (first | (go_at_call 43; refine (HI.out _ HE.out.low).mono ?_; rintro e_ w1 ⟨rfl, hb1⟩; have HE1 := Aside0.mk (HE.out.below hb1); have HO1 := Aside0.mk (oth_below (e := 5) (b := some bb) hb1); clear hb1) | (go_at_call 41; have H41 := put41 (⟨#[b0]⟩ ++ ⟨(Lib.itoa n).toArray⟩) HE1.out (by rw [say_size]; have := HL.out; omega); refine H41.mono ?_; clear H41; rintro e_ w2 ⟨⟨v2, rfl⟩, hE2, hO2⟩; have HE2 := Aside0.mk hE2; have HO2 := Aside0.mk (HO1.out.trans hO2); clear hE2 hO2))
  first | go_end0 | (simp only [Exit.inBlock, Exit.then]; refine bodyPost_ret (results_none rfl _ _ _) rfl ?_) | refine bodyPost_ret (results_none rfl _ _ _) rfl ?_
  refine ⟨rfl, ?_, HO2.out⟩
  have h := HE2.out
  rw [say_list] at h
  exact h

end Go.Proofs.YtmnjaihalajhcaaDoor.QPlanConds
