import Derived.Test.YtmnjaihalajhcaaDoorPlX
/- Plan: walks by hand; the conditions stand in each theorem. -/
namespace Go.Proofs.YtmnjaihalajhcaaDoor.QPlanConds
open Go.RowKit Go.Proofs.YtmnjaihalajhcaaDoorW.PrintWords Go.Proofs.YtmnjaihalajhcaaDoorW.PrintLast Go.Proofs.YtmnjaihalajhcaaDoorW.PrintMore
attribute [local go_sem] max2_int min2_int max_two min_two max_three min_three max_four min_four
set_option linter.unusedVariables false
set_option linter.unusedSimpArgs false
/- Plain laws of right plans. -/
theorem bits16 : ∀ a b : Fin 16, (0 ≤ Go.bits .or .i64 (a.val : Int) (b.val : Int) ∧ (a.val : Int) ≤ Go.bits .or .i64 (a.val : Int) (b.val : Int) ∧ (b.val : Int) ≤ Go.bits .or .i64 (a.val : Int) (b.val : Int)) ∧ (∀ c : Fin 5, (a.val : Int) < 2 ^ c.val → (b.val : Int) < 2 ^ c.val → Go.bits .or .i64 (a.val : Int) (b.val : Int) < 2 ^ c.val) := by decide +kernel
theorem or16 {x y : Int} (h0 : 0 ≤ x) (h1 : x < 16) (k0 : 0 ≤ y) (k1 : y < 16) : x ≤ Go.bits .or .i64 x y ∧ y ≤ Go.bits .or .i64 x y ∧ ∀ c : Nat, c ≤ 4 → x < 2 ^ c → y < 2 ^ c → Go.bits .or .i64 x y < 2 ^ c := by
  obtain ⟨n, rfl⟩ := Int.eq_ofNat_of_zero_le h0
  obtain ⟨m, rfl⟩ := Int.eq_ofNat_of_zero_le k0
  have h := bits16 ⟨n, by omega⟩ ⟨m, by omega⟩
  exact ⟨h.1.2.1, h.1.2.2, fun c hc a b => h.2 ⟨c, by omega⟩ a b⟩
theorem pow_core {core : Int} (c1 : 1 ≤ core) (c4 : core ≤ 4) : ∃ c : Nat, core.toNat = c ∧ 1 ≤ c ∧ c ≤ 4 ∧ (2 : Int) ^ c ≤ 16 ∧ 2 ≤ (2 : Int) ^ c := by
  have h : core = 1 ∨ core = 2 ∨ core = 3 ∨ core = 4 := by omega
  rcases h with rfl | rfl | rfl | rfl
  · exact ⟨1, rfl, by decide, by decide, by decide, by decide⟩
  · exact ⟨2, rfl, by decide, by decide, by decide, by decide⟩
  · exact ⟨3, rfl, by decide, by decide, by decide, by decide⟩
  · exact ⟨4, rfl, by decide, by decide, by decide, by decide⟩
theorem node_false {core : Int} {L : List S46} {T : List Int} {p : S34} (h : nodeF core L T p (p.f7.map (nodeX core L T)) = false) : nodeX core L T p = false := by rw [nodeX_eq]; exact h
/- What a right node is. -/
theorem node_ways {core : Int} {L : List S46} {T : List Int} {p : S34} (h : nodeX core L T p = true) :
    badB p = false ∧ ((joinB p = true ∧ p.f7.length = 2 ∧ p.f1 = 0 ∧ nodeX core L T (rd_T34 p.f7 0) = true ∧ nodeX core L T (rd_T34 p.f7 1) = true ∧ condB L p = true ∧ setB p = true) ∨
      (joinB p = false ∧ p.f7.length = 0 ∧ ((p.f0 = 1 ∧ tableB core p = true ∧ p.f2 = 0) ∨ (p.f0 = 2 ∧ tableB core p = true ∧ (looksO L p.f2 p.f1).isSome = true) ∨ (p.f0 = 6 ∧ tempB core T p = true)))) := by
  rw [nodeX_eq] at h
  unfold nodeF at h
  split at h
  · cases h
  rename_i hb
  refine ⟨by simpa using hb, ?_⟩
  split at h
  · rename_i hj
    left
    split at h
    · rename_i ht
      split at h
      · rename_i hc
        have hl : p.f7.length = 2 := by
          apply Decidable.byContradiction
          intro hne
          rw [twoB_ne (by simpa using hne)] at ht
          cases ht
        have hz := list_two hl
        have he : twoB p (p.f7.map (nodeX core L T)) = (if p.f1 = 0 then (if nodeX core L T (rd_T34 p.f7 0) = true then nodeX core L T (rd_T34 p.f7 1) else false) else false) := congrArg (fun l => twoB p (l.map (nodeX core L T))) hz
        have ht2 := he.symm.trans ht
        split at ht2
        · rename_i h1
          split at ht2
          · rename_i h2
            exact ⟨hj, hl, h1, h2, ht2, hc, h⟩
          · cases ht2
        · cases ht2
      · cases h
    · cases h
  · rename_i hj
    right
    refine ⟨by simpa using hj, ?_⟩
    split at h
    · cases h
    rename_i hl
    refine ⟨by omega, ?_⟩
    split at h
    · rename_i h0
      split at h
      · rename_i ht
        exact Or.inl ⟨h0, ht, by simpa using h⟩
      · cases h
    · split at h
      · rename_i h0
        split at h
        · rename_i ht
          exact Or.inr (Or.inl ⟨h0, ht, h⟩)
        · cases h
      · split at h
        · rename_i h0
          exact Or.inr (Or.inr ⟨h0, h⟩)
        · cases h
theorem setB_eq {p : S34} (h : setB p = true) : Go.bits .and .i64 (rd_T34 p.f7 0).f3 (rd_T34 p.f7 1).f3 = 0 ∧ p.f3 = Go.bits .or .i64 (rd_T34 p.f7 0).f3 (rd_T34 p.f7 1).f3 := by
  unfold setB at h
  split at h
  · exact ⟨by assumption, by simpa using h⟩
  · cases h
theorem tableB_eq {core : Int} {p : S34} (h : tableB core p = true) : 0 ≤ p.f1 ∧ p.f1 < core ∧ p.f3 = wrap64 (2 ^ p.f1.toNat) := by
  unfold tableB at h
  split at h
  · split at h
    · exact ⟨by omega, by assumption, by simpa using h⟩
    · cases h
  · cases h
theorem tempB_eq {core : Int} {T : List Int} {p : S34} (h : tempB core T p = true) : 1 ≤ p.f3 ∧ p.f3 / 2 ^ core.toNat = 0 ∧ p.f1 = 0 ∧ p.f2 = 0 ∧ hasX T p.f3 = true := by
  unfold tempB at h
  split at h
  · split at h
    · split at h
      · split at h
        · exact ⟨by omega, by assumption, by assumption, by assumption, h⟩
        · cases h
      · cases h
    · cases h
  · cases h
theorem table_set {core : Int} (c4 : core ≤ 4) {p : S34} (h : tableB core p = true) : 0 < p.f3 ∧ p.f3 < 2 ^ core.toNat := by
  obtain ⟨h0, h1, h2⟩ := tableB_eq h
  have hc : p.f1 = 0 ∨ p.f1 = 1 ∨ p.f1 = 2 ∨ p.f1 = 3 := by omega
  have hk : core = 1 ∨ core = 2 ∨ core = 3 ∨ core = 4 := by omega
  rcases hk with rfl | rfl | rfl | rfl <;> rcases hc with e | e | e | e <;> (rw [e] at h1 h2; first | omega | (rw [h2]; decide +kernel))
theorem node_set {core : Int} (c1 : 1 ≤ core) (c4 : core ≤ 4) {L : List S46} {T : List Int} : ∀ p : S34, nodeX core L T p = true → 0 < p.f3 ∧ p.f3 < 2 ^ core.toNat := by
  obtain ⟨c, hc, k1, k4, k16, k2⟩ := pow_core c1 c4
  refine ind34 ?_
  intro p ih h
  obtain ⟨_, ⟨_, hl, _, hx, hy, _, hs⟩ | ⟨_, _, ⟨_, ht, _⟩ | ⟨_, ht, _⟩ | ⟨_, ht⟩⟩⟩ := node_ways h
  · obtain ⟨x0, x1⟩ := ih _ (mem_two hl).1 hx
    obtain ⟨y0, y1⟩ := ih _ (mem_two hl).2 hy
    rw [hc] at x1 y1 ⊢
    obtain ⟨a, b, d⟩ := or16 (Int.le_of_lt x0) (by omega) (Int.le_of_lt y0) (by omega)
    rw [(setB_eq hs).2]
    exact ⟨by omega, d c k4 x1 y1⟩
  · exact table_set c4 ht
  · exact table_set c4 ht
  · obtain ⟨h1, h2, _⟩ := tempB_eq ht
    rw [hc] at h2 ⊢
    refine ⟨by omega, ?_⟩
    have : (0 : Int) < 2 ^ c := by omega
    have h3 := Int.emod_lt_of_pos p.f3 this
    have h4 := Int.mul_ediv_add_emod p.f3 (2 ^ c)
    rw [h2] at h4
    omega
theorem right_node {nT : Nat} {core : Int} {L : List S46} {T : List Int} {p : S34} (h : rightP nT core L T p = true) : 1 ≤ core ∧ core ≤ 4 ∧ core ≤ nT ∧ nodesX p ≤ 20 ∧ nodeX core L T p = true := by
  unfold rightP at h
  split at h
  · cases h
  split at h
  · cases h
  split at h
  · cases h
  split at h
  · cases h
  exact ⟨by omega, by omega, by omega, by omega, h⟩
theorem right_no {nT : Nat} {core : Int} {L : List S46} {T : List Int} {q : S34} (h : nodeX core L T q = false) : rightP nT core L T q = false := by
  unfold rightP
  (repeat' split) <;> first | rfl | exact h
/- Spoilt. -/
theorem spoil0 {core : Int} {L : List S46} {T : List Int} {q : S34} (h : q.f0 = 8) : nodeX core L T q = false := by
  rcases Bool.eq_false_or_eq_true (nodeX core L T q) with hq | hq
  · obtain ⟨_, ⟨b1, _⟩ | ⟨_, _, ⟨b2, _⟩ | ⟨b2, _⟩ | ⟨b2, _⟩⟩⟩ := node_ways hq
    · unfold joinB at b1
      rw [h] at b1
      cases b1
    · omega
    · omega
    · omega
  · exact hq
theorem spoil_set {core : Int} (c1 : 1 ≤ core) (c4 : core ≤ 4) {L : List S46} {T : List Int} {q : S34} (h : q.f3 ≤ 0 ∨ 2 ^ core.toNat ≤ q.f3) : nodeX core L T q = false := by
  rcases Bool.eq_false_or_eq_true (nodeX core L T q) with hq | hq
  · have := node_set c1 c4 q hq
    omega
  · exact hq
theorem spoil2 {core : Int} {L : List S46} {T : List Int} {p q : S34} (h : nodeX core L T p = true) (h0 : q.f0 = p.f0) (h7 : q.f7.length = p.f7.length + 1) : nodeX core L T q = false := by
  rcases Bool.eq_false_or_eq_true (nodeX core L T q) with hq | hq
  · have hj : joinB q = joinB p := by unfold joinB; rw [h0]
    obtain ⟨_, ⟨a1, a2, _⟩ | ⟨a1, a2, _⟩⟩ := node_ways h <;> obtain ⟨_, ⟨b1, b2, _⟩ | ⟨b1, b2, _⟩⟩ := node_ways hq
    · omega
    · rw [hj, a1] at b1; cases b1
    · rw [hj, a1] at b1; cases b1
    · omega
  · exact hq
theorem spoil4 {core : Int} {L : List S46} {T : List Int} {q : S34} (h4 : q.f4 = true) (h5 : q.f5 = 2) (h6 : q.f6 = 1) : nodeX core L T q = false := by
  rcases Bool.eq_false_or_eq_true (nodeX core L T q) with hq | hq
  · have hb := (node_ways hq).1
    unfold badB at hb
    rw [if_pos h4, h5, h6] at hb
    split at hb <;> cases hb
  · exact hq
theorem eqX_out {L : List S46} : eqX L (L.length : Int) = none := by
  unfold eqX
  rw [if_neg (by omega)]
theorem spoil5 {core : Int} {L : List S46} {T : List Int} {p q : S34} (h : nodeX core L T p = true) (h0 : q.f0 = p.f0) (h2 : (p.f0 = 6 ∨ p.f0 = 1 ∨ p.f0 = 3) ∧ q.f2 = 1 ∨ ¬(p.f0 = 6 ∨ p.f0 = 1 ∨ p.f0 = 3) ∧ q.f2 = (L.length : Int)) : nodeX core L T q = false := by
  rcases Bool.eq_false_or_eq_true (nodeX core L T q) with hq | hq
  · obtain ⟨_, ⟨b1, _, _, _, _, b2, _⟩ | ⟨b1, _, ⟨b2, _, b3⟩ | ⟨b2, _, b3⟩ | ⟨b2, b3⟩⟩⟩ := node_ways hq
    · unfold condB at b2
      rcases h2 with ⟨h2, h3⟩ | ⟨h2, h3⟩
      · have h4 : q.f0 = 3 := by
          unfold joinB at b1
          rw [h0] at b1
          rw [h0]
          simp at b1
          omega
        rw [if_pos h4, h3] at b2
        cases b2
      · rw [if_neg (by omega), h3] at b2
        unfold joinsX at b2
        rw [eqX_out] at b2
        cases b2
    · omega
    · rcases h2 with ⟨h2, h3⟩ | ⟨h2, h3⟩
      · omega
      · rw [h3] at b3
        unfold looksO at b3
        rw [eqX_out] at b3
        cases b3
    · have := (tempB_eq b3).2.2.2.1
      omega
  · exact hq

end Go.Proofs.YtmnjaihalajhcaaDoor.QPlanConds
