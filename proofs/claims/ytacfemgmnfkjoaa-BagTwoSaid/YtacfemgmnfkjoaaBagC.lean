import Derived.Test.YtacfemgmnfkjoaaBagB
/- Bag: walks of the bag's functions, by hand; the conditions stand in each theorem. -/
namespace Go.Proofs.Ytacfemgmnfkjoaa.QBag
open Go.RowKit Go.Proofs.YtacfemgmnfkjoaaW.PrintWords Go.Proofs.YtacfemgmnfkjoaaW.PrintLast Go.Proofs.YtacfemgmnfkjoaaW.PrintMore
attribute [local go_sem] max2_int min2_int max_two min_two max_three min_three max_four min_four
set_option linter.unusedVariables false
set_option linter.unusedSimpArgs false
theorem eq_nil0 (w : World) : (binOp .eql 44 (.map none) (.map none)).run Try.prog w = .ok (.bool true) w := by kernel_rfl
theorem eq_nil1 (w : World) (B : Nat) : (binOp .eql 44 (.map (some B)) (.map none)).run Try.prog w = .ok (.bool false) w := by kernel_rfl
attribute [local go_sem] eq_nil0 eq_nil1
set_option maxHeartbeats 4000000 in
theorem bag_add (W : World) (own : Nat → Prop) (g n n' : Nat) (l l' : List ByteArray) (k : ByteArray) (x : Int) (h : Bg W own g n l) (hk : k.size ≤ maxLen) (hn : n + 1 ≤ n') (hn' : n' ≤ 4611686018427387904) (hln : l'.length ≤ n') (hx0 : -4611686018427387904 ≤ x) (hx1 : x ≤ 4611686018427387904) (hc : ∀ s, (l'.count s : Int) = l.count s + if s = k then x else 0) (hl : (l'.length : Int) = l.length + x) :
    Calls Try.prog 31 #[.pointer (some ⟨g, 0, none⟩), .string k, .int .i64 x] W fun e w' => e = .returned (.tuple #[]) ∧ Bg w' (fun j => own j ∨ W.heap.size ≤ j) g n' l' ∧ Upd own W w' := by
  obtain ⟨mv, h1, h2, h3, h4, h5⟩ := h
  have hgl := blk_lt h1
  have hck := hc k
  rw [if_pos rfl] at hck
  have hcl : l.count k ≤ l.length := List.count_le_length
  have hcl2 : l'.count k ≤ l'.length := List.count_le_length
  have hmem : ∀ s ∈ l', s.size ≤ maxLen := fun s hs => by
    by_cases c : s = k
    · rw [c]; exact hk
    · have h6 := hc s
      rw [if_neg c, Int.add_zero] at h6
      have h7 := List.count_pos_iff.2 hs
      exact h4 s (List.count_pos_iff.1 (by omega))
  have HM := Aside0.mk hmem
  have HC := Aside0.mk hc
  have H2 := Aside0.mk h2
  obtain ⟨cv, hcv⟩ : ∃ cv : Int, (l.count k : Int) = cv := ⟨_, rfl⟩
  rw [hcv] at hck
  obtain ⟨sum, hsum⟩ : ∃ sum : Int, cv + x = sum := ⟨_, rfl⟩
  obtain ⟨all, hall⟩ : ∃ all : Int, (l.length : Int) + x = all := ⟨_, rfl⟩
  have hw1 : wrap64 (cv + x) = sum := by rw [hsum]; unfold wrap64; omega
  have hw2 : wrap64 ((l.length : Int) + x) = all := by rw [hall]; unfold wrap64; omega
  have hwf : (Lit.int .i64 sum).wf = true := wf64 (by omega) (by omega)
  have HALL : Aside0 (all = (l'.length : Int)) := ⟨by omega⟩
  have HS : Aside0 ((l.count k : Int) + x = sum) := ⟨by rw [hcv]; exact hsum⟩
  have hnm : n < maxLen := by unfold maxLen; omega
  clear hmem hc h2 h4
  rcases h3 with ⟨rfl, hl0⟩ | ⟨B, rfl, hB, hne, hm⟩
  · have hd := hgl
    have hmk : (Instr.makeMap 44 none).run Try.prog W = .ok (.map (some W.heap.size)) (W.alloc (.map #[] 0)) := rfl
    have hneB : W.heap.size ≠ g := by omega
    have hownB : own W.heap.size ∨ W.heap.size ≤ W.heap.size := .inr (Nat.le_refl _)
    have bkA := blk_alloc h1 (.map #[] 0)
    have bkV : ((W.alloc (.map #[] 0)).setCell ⟨g, 0, none⟩ (.map (some W.heap.size))).heap[g]? = some (.cells #[.map (some W.heap.size), .int .i64 (l.length : Int)] 48 (0, 0)) := blk_set bkA 0 _
    have hm : MapAt ((W.alloc (.map #[] 0)).setCell ⟨g, 0, none⟩ (.map (some W.heap.size))) W.heap.size n (cntF l) := by
      obtain ⟨D, a, b⟩ := map_far (map_new W) (Below.heap_setCell (W.alloc (.map #[] 0)) ⟨g, 0, none⟩ (.map (some W.heap.size)) W.heap.size hneB)
      rw [hl0]
      exact ⟨D, a.mono (Nat.zero_le _), b⟩
    have hVsz : W.heap.size ≤ ((W.alloc (.map #[] 0)).setCell ⟨g, 0, none⟩ (.map (some W.heap.size))).heap.size := by simp
    have hVot : ((W.alloc (.map #[] 0)).setCell ⟨g, 0, none⟩ (.map (some W.heap.size))).os = W.os ∧ ((W.alloc (.map #[] 0)).setCell ⟨g, 0, none⟩ (.map (some W.heap.size))).tape = W.tape ∧ ((W.alloc (.map #[] 0)).setCell ⟨g, 0, none⟩ (.map (some W.heap.size))).output = W.output := ⟨rfl, rfl, rfl⟩
    have hVfar : ∀ j, j < W.heap.size → j ≠ g → ((W.alloc (.map #[] 0)).setCell ⟨g, 0, none⟩ (.map (some W.heap.size))).heap[j]? = W.heap[j]? := fun j hj hne => (Below.heap_setCell _ _ _ _ hne).trans (Below.heap_alloc W _ j hj)
    have hw0 : W.cell? ⟨g, 0, none⟩ = some (.map none) := (blk_cell h1 0).trans rfl
    have ha0 : (W.alloc (.map #[] 0)).cell? ⟨g, 0, none⟩ = some (.map none) := (blk_cell bkA 0).trans rfl
    have haf := blk_frozen bkA 0
    clear hl0 hd
    generalize hV : (W.alloc (.map #[] 0)).setCell ⟨g, 0, none⟩ (.map (some W.heap.size)) = V at *
    have hv0 : V.cell? ⟨g, 0, none⟩ = some (.map (some W.heap.size)) := (blk_cell bkV 0).trans rfl
    have hlook := map_at hm k hk
    rw [cntF_getD, hcv] at hlook
    obtain ⟨o2, hput, hm1⟩ := map_put hm hnm k hk sum hwf
    have hVB := map_lt hm
    have bk1 : (Go.ChangeMaps.setBlock V W.heap.size o2).heap[g]? = some (.cells #[.map (some W.heap.size), .int .i64 (l.length : Int)] 48 (0, 0)) := (sb_other hneB.symm o2).trans bkV
    have far1 : ∀ j, j ≠ W.heap.size → (Go.ChangeMaps.setBlock V W.heap.size o2).heap[j]? = V.heap[j]? := fun j hj => sb_other hj o2
    have sz1 : (Go.ChangeMaps.setBlock V W.heap.size o2).heap.size = V.heap.size := by simp [Go.ChangeMaps.setBlock]
    have ot1 : (Go.ChangeMaps.setBlock V W.heap.size o2).os = V.os ∧ (Go.ChangeMaps.setBlock V W.heap.size o2).tape = V.tape ∧ (Go.ChangeMaps.setBlock V W.heap.size o2).output = V.output := ⟨rfl, rfl, rfl⟩
    generalize hW1 : Go.ChangeMaps.setBlock V W.heap.size o2 = W1 at *
    have hp0 : W1.cell? ⟨g, 0, none⟩ = some (.map (some W.heap.size)) := (blk_cell bk1 0).trans rfl
    have hp1 : W1.cell? ⟨g, 1, none⟩ = some (.int .i64 (l.length : Int)) := (blk_cell bk1 1).trans rfl
    have hpf := blk_frozen bk1 1
    have hlook2 := map_at hm1 k hk
    rw [updF_same, Option.getD_some] at hlook2
    by_cases hz : sum = 0
    · subst hz
      have hdel : ∃ o3, (∀ ty, (Builtin.delete_ #[44, 9] ty #[.map (some W.heap.size), .string k]).run Try.prog W1 = .ok (.tuple #[]) (Go.ChangeMaps.setBlock W1 W.heap.size o3)) ∧ MapAt (Go.ChangeMaps.setBlock W1 W.heap.size o3) W.heap.size (n + 1) (updF (updF (cntF l) k (some 0)) k none) := by
        obtain ⟨o3, hd, hm3⟩ := map_drop hm1 k hk 0
        exact ⟨o3, fun ty => hd, hm3⟩
      obtain ⟨o3, hd, hm2⟩ := hdel
      rw [cnt_drop HC.out HS.out] at hm2
      have bk2 : (Go.ChangeMaps.setBlock W1 W.heap.size o3).heap[g]? = some (.cells #[.map (some W.heap.size), .int .i64 (l.length : Int)] 48 (0, 0)) := (sb_other hneB.symm o3).trans bk1
      have far2 : ∀ j, j ≠ W.heap.size → (Go.ChangeMaps.setBlock W1 W.heap.size o3).heap[j]? = W1.heap[j]? := fun j hj => sb_other hj o3
      have sz2 : (Go.ChangeMaps.setBlock W1 W.heap.size o3).heap.size = W1.heap.size := by simp [Go.ChangeMaps.setBlock]
      have ot2 : (Go.ChangeMaps.setBlock W1 W.heap.size o3).os = W1.os ∧ (Go.ChangeMaps.setBlock W1 W.heap.size o3).tape = W1.tape ∧ (Go.ChangeMaps.setBlock W1 W.heap.size o3).output = W1.output := ⟨rfl, rfl, rfl⟩
      generalize hW2 : Go.ChangeMaps.setBlock W1 W.heap.size o3 = W2 at *
      have hq1 : W2.cell? ⟨g, 1, none⟩ = some (.int .i64 (l.length : Int)) := (blk_cell bk2 1).trans rfl
      have hqf := blk_frozen bk2 1
      have HE : Aside0 (Bg (W2.setCell ⟨g, 1, none⟩ (.int .i64 all)) (fun j => own j ∨ W.heap.size ≤ j) g n' l' ∧ Upd own W (W2.setCell ⟨g, 1, none⟩ (.int .i64 all))) := ⟨add_done HALL.out H2.out hgl hownB hneB bk2 (by obtain ⟨D, a, b⟩ := hm2; exact ⟨D, a.mono hn, b⟩) (by rw [sz2, sz1]; first | done | exact hVsz) (by rw [ot2.1, ot1.1]; first | done | exact hVot.1) (by rw [ot2.2.1, ot1.2.1]; first | done | exact hVot.2.1) (by rw [ot2.2.2, ot1.2.2]; first | done | exact hVot.2.2) (fun j hj h1 h2 => (far2 j h2).trans ((far1 j h2).trans (hVfar j hj h1))) HM.out hln⟩
      clear hm2 hm1 bk2 bk1 far1 far2 sz1 sz2 ot1 ot2 hVfar hVot hVsz
      go_enter Try.func31, Try.ntmps31
      go_wp2
      first | go_end0 | (simp only [Exit.inBlock, Exit.then]; refine bodyPost_ret (results_none rfl _ _ _) rfl ?_) | refine bodyPost_ret (results_none rfl _ _ _) rfl ?_
      exact ⟨rfl, HE.out⟩
    · have hzb : decide (sum = 0) = false := decide_eq_false hz
      have hm2 : MapAt W1 W.heap.size (n + 1) (cntF l') := by
        have := cnt_put HC.out (by rw [HS.out]; exact hz)
        rw [HS.out] at this
        rw [← this]
        exact hm1
      have HE : Aside0 (Bg (W1.setCell ⟨g, 1, none⟩ (.int .i64 all)) (fun j => own j ∨ W.heap.size ≤ j) g n' l' ∧ Upd own W (W1.setCell ⟨g, 1, none⟩ (.int .i64 all))) := ⟨add_done HALL.out H2.out hgl hownB hneB bk1 (by obtain ⟨D, a, b⟩ := hm2; exact ⟨D, a.mono hn, b⟩) (by rw [sz1]; first | done | exact hVsz) (by rw [ot1.1]; first | done | exact hVot.1) (by rw [ot1.2.1]; first | done | exact hVot.2.1) (by rw [ot1.2.2]; first | done | exact hVot.2.2) (fun j hj h1 h2 => (far1 j h2).trans (hVfar j hj h1)) HM.out hln⟩
      clear hm2 hm1 bk1 far1 sz1 ot1 hVfar hVot hVsz
      go_enter Try.func31, Try.ntmps31
      go_wp2
      first | go_end0 | (simp only [Exit.inBlock, Exit.then]; refine bodyPost_ret (results_none rfl _ _ _) rfl ?_) | refine bodyPost_ret (results_none rfl _ _ _) rfl ?_
      exact ⟨rfl, HE.out⟩
  · have hd := hgl
    have hneB : B ≠ g := hne
    have hownB : own B ∨ W.heap.size ≤ B := .inl hB
    have hVsz : W.heap.size ≤ W.heap.size := Nat.le_refl _
    have hVot : W.os = W.os ∧ W.tape = W.tape ∧ W.output = W.output := ⟨rfl, rfl, rfl⟩
    have hVfar : ∀ j, j < W.heap.size → j ≠ g → W.heap[j]? = W.heap[j]? := fun _ _ _ => rfl
    have hv0 : W.cell? ⟨g, 0, none⟩ = some (.map (some B)) := (blk_cell h1 0).trans rfl
    have hlook := map_at hm k hk
    rw [cntF_getD, hcv] at hlook
    obtain ⟨o2, hput, hm1⟩ := map_put hm hnm k hk sum hwf
    have hVB := map_lt hm
    have bk1 : (Go.ChangeMaps.setBlock W B o2).heap[g]? = some (.cells #[.map (some B), .int .i64 (l.length : Int)] 48 (0, 0)) := (sb_other hneB.symm o2).trans h1
    have far1 : ∀ j, j ≠ B → (Go.ChangeMaps.setBlock W B o2).heap[j]? = W.heap[j]? := fun j hj => sb_other hj o2
    have sz1 : (Go.ChangeMaps.setBlock W B o2).heap.size = W.heap.size := by simp [Go.ChangeMaps.setBlock]
    have ot1 : (Go.ChangeMaps.setBlock W B o2).os = W.os ∧ (Go.ChangeMaps.setBlock W B o2).tape = W.tape ∧ (Go.ChangeMaps.setBlock W B o2).output = W.output := ⟨rfl, rfl, rfl⟩
    generalize hW1 : Go.ChangeMaps.setBlock W B o2 = W1 at *
    have hp0 : W1.cell? ⟨g, 0, none⟩ = some (.map (some B)) := (blk_cell bk1 0).trans rfl
    have hp1 : W1.cell? ⟨g, 1, none⟩ = some (.int .i64 (l.length : Int)) := (blk_cell bk1 1).trans rfl
    have hpf := blk_frozen bk1 1
    have hlook2 := map_at hm1 k hk
    rw [updF_same, Option.getD_some] at hlook2
    by_cases hz : sum = 0
    · subst hz
      have hdel : ∃ o3, (∀ ty, (Builtin.delete_ #[44, 9] ty #[.map (some B), .string k]).run Try.prog W1 = .ok (.tuple #[]) (Go.ChangeMaps.setBlock W1 B o3)) ∧ MapAt (Go.ChangeMaps.setBlock W1 B o3) B (n + 1) (updF (updF (cntF l) k (some 0)) k none) := by
        obtain ⟨o3, hd, hm3⟩ := map_drop hm1 k hk 0
        exact ⟨o3, fun ty => hd, hm3⟩
      obtain ⟨o3, hd, hm2⟩ := hdel
      rw [cnt_drop HC.out HS.out] at hm2
      have bk2 : (Go.ChangeMaps.setBlock W1 B o3).heap[g]? = some (.cells #[.map (some B), .int .i64 (l.length : Int)] 48 (0, 0)) := (sb_other hneB.symm o3).trans bk1
      have far2 : ∀ j, j ≠ B → (Go.ChangeMaps.setBlock W1 B o3).heap[j]? = W1.heap[j]? := fun j hj => sb_other hj o3
      have sz2 : (Go.ChangeMaps.setBlock W1 B o3).heap.size = W1.heap.size := by simp [Go.ChangeMaps.setBlock]
      have ot2 : (Go.ChangeMaps.setBlock W1 B o3).os = W1.os ∧ (Go.ChangeMaps.setBlock W1 B o3).tape = W1.tape ∧ (Go.ChangeMaps.setBlock W1 B o3).output = W1.output := ⟨rfl, rfl, rfl⟩
      generalize hW2 : Go.ChangeMaps.setBlock W1 B o3 = W2 at *
      have hq1 : W2.cell? ⟨g, 1, none⟩ = some (.int .i64 (l.length : Int)) := (blk_cell bk2 1).trans rfl
      have hqf := blk_frozen bk2 1
      have HE : Aside0 (Bg (W2.setCell ⟨g, 1, none⟩ (.int .i64 all)) (fun j => own j ∨ W.heap.size ≤ j) g n' l' ∧ Upd own W (W2.setCell ⟨g, 1, none⟩ (.int .i64 all))) := ⟨add_done HALL.out H2.out hgl hownB hneB bk2 (by obtain ⟨D, a, b⟩ := hm2; exact ⟨D, a.mono hn, b⟩) (by rw [sz2, sz1]; first | done | exact hVsz) (by rw [ot2.1, ot1.1]; first | done | exact hVot.1) (by rw [ot2.2.1, ot1.2.1]; first | done | exact hVot.2.1) (by rw [ot2.2.2, ot1.2.2]; first | done | exact hVot.2.2) (fun j hj h1 h2 => (far2 j h2).trans ((far1 j h2).trans (hVfar j hj h1))) HM.out hln⟩
      clear hm2 hm1 bk2 bk1 far1 far2 sz1 sz2 ot1 ot2 hVfar hVot hVsz
      go_enter Try.func31, Try.ntmps31
      go_wp2
      first | go_end0 | (simp only [Exit.inBlock, Exit.then]; refine bodyPost_ret (results_none rfl _ _ _) rfl ?_) | refine bodyPost_ret (results_none rfl _ _ _) rfl ?_
      exact ⟨rfl, HE.out⟩
    · have hzb : decide (sum = 0) = false := decide_eq_false hz
      have hm2 : MapAt W1 B (n + 1) (cntF l') := by
        have := cnt_put HC.out (by rw [HS.out]; exact hz)
        rw [HS.out] at this
        rw [← this]
        exact hm1
      have HE : Aside0 (Bg (W1.setCell ⟨g, 1, none⟩ (.int .i64 all)) (fun j => own j ∨ W.heap.size ≤ j) g n' l' ∧ Upd own W (W1.setCell ⟨g, 1, none⟩ (.int .i64 all))) := ⟨add_done HALL.out H2.out hgl hownB hneB bk1 (by obtain ⟨D, a, b⟩ := hm2; exact ⟨D, a.mono hn, b⟩) (by rw [sz1]; first | done | exact hVsz) (by rw [ot1.1]; first | done | exact hVot.1) (by rw [ot1.2.1]; first | done | exact hVot.2.1) (by rw [ot1.2.2]; first | done | exact hVot.2.2) (fun j hj h1 h2 => (far1 j h2).trans (hVfar j hj h1)) HM.out hln⟩
      clear hm2 hm1 bk1 far1 sz1 ot1 hVfar hVot hVsz
      go_enter Try.func31, Try.ntmps31
      go_wp2
      first | go_end0 | (simp only [Exit.inBlock, Exit.then]; refine bodyPost_ret (results_none rfl _ _ _) rfl ?_) | refine bodyPost_ret (results_none rfl _ _ _) rfl ?_
      exact ⟨rfl, HE.out⟩

end Go.Proofs.Ytacfemgmnfkjoaa.QBag
