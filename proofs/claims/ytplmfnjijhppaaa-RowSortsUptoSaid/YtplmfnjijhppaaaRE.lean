import Derived.Test.YtplmfnjijhppaaaRC
import Derived.Test.YtplmfnjijhppaaaRD
import Derived.Test.YtplmfnjijhppaaaQRowSortsx9
/- Row's sort, and the laws over it: walks by hand; the conditions stand in each theorem. -/
namespace Go.Proofs.Ytplmfnjijhppaaa.QRowSorts
open Go.RowKit Go.Proofs.YtplmfnjijhppaaaW.PrintWords Go.Proofs.YtplmfnjijhppaaaW.PrintLast Go.Proofs.YtplmfnjijhppaaaW.PrintMore
attribute [local go_sem] max2_int min2_int max_two min_two max_three min_three max_four min_four
set_option linter.unusedVariables false
set_option linter.unusedSimpArgs false
theorem rdT_at (l : List S36) (i : Nat) (h : i < l.length) : rd_T36 l (i : Int) = l[i] := by unfold rd_T36; rw [Int.toNat_natCast, List.getD_eq_getElem?_getD, List.getElem?_eq_getElem h]; rfl
theorem refCompare_eq (a0 a1 : Int) (a2 : ByteArray) (b0 b1 : Int) (b2 : ByteArray) : weathercockref01_Compare.f a0 a1 a2 b0 b1 b2 = some (cV a0 a1 a2 b0 b1 b2) := by
  unfold weathercockref01_Compare.f weathercockref01_sign.f cV lexC cI cS
  by_cases h0 : a0 = b0
  · by_cases h1 : a1 = b1
    · subst h0 h1
      by_cases h2 : a2.toList = b2.toList
      · simp [h2, bl_irrefl]
      · by_cases h3 : Op.bytesLess a2.toList b2.toList = true
        · simp [h2, h3]
        · simp [h2, h3]
    · subst h0
      by_cases h2 : a1 < b1
      · simp [h1, h2]
      · have h3 : b1 < a1 := by omega
        simp [h1, h2, h3]
  · by_cases h2 : a0 < b0
    · simp [h0, h2]
    · have h3 : b0 < a0 := by omega
      simp [h0, h2, h3]
theorem refCmp_l0 (a b : List S36) (ha : a.length < 4611686018427387904) : ∀ (m i : Nat), i + m = a.length → i ≤ b.length → Ev (fun k => weathercockref02_Compare.l0 k a b (i : Int)) (cmpR (a.drop i) (b.drop i)) := by
  intro m
  induction m with
  | zero =>
    intro i hi hib
    refine Ev.step (fun k => rfl) (ev_neg (by omega) (Ev.step (f := fun _ => if (a.length : Int) < (b.length : Int) then some (-1) else if (a.length : Int) > (b.length : Int) then some 1 else some 0) (fun k => rfl) ?_))
    rw [cmpR_end a b i (by omega) (by omega)]
    by_cases h : a.length < b.length
    · rw [if_pos h]; exact ev_pos (by omega) (Ev.now _)
    · rw [if_neg h]; exact ev_neg (by omega) (ev_neg (by omega) (Ev.now _))
  | succ m ih =>
    intro i hi hib
    have hia : i < a.length := by omega
    refine Ev.step (fun k => rfl) (ev_pos (by omega) (Ev.step (fun k => rfl) ?_))
    by_cases hb : i < b.length
    · refine ev_pos (by simp; omega) (ev_pos (by omega) (ev_pos (by omega) (ev_pos (by omega) ?_)))
      rw [rdT_at a i hia, rdT_at b i hb, refCompare_eq, cmpR_drop a b i hia hb]
      simp only [Option.bind_some]
      by_cases hz : cV a[i].f0 a[i].f1 a[i].f2 b[i].f0 b[i].f1 b[i].f2 = 0
      · rw [if_pos hz]
        refine ev_pos hz ?_
        rw [w64_ (by omega) (by omega)]
        exact ih (i + 1) (by omega) (by omega)
      · rw [if_neg hz]
        exact ev_neg hz (Ev.now _)
    · refine ev_neg (by simp; omega) (ev_neg (by omega) (ev_pos (by omega) ?_))
      rw [cmpR_long a b i hia (by omega)]
      exact Ev.now _
theorem refCmp_ev (a b : List S36) (ha : a.length < 4611686018427387904) : Ev (fun k => weathercockref02_Compare.f k a b) (cmpR a b) := refCmp_l0 a b ha a.length 0 (by omega) (Nat.zero_le _)
/- The reference's insertion. -/
theorem ins_at (s : List (List S36)) (x : List S36) (k : Nat) (hs : s.Pairwise (fun x y => cmpR x y ≤ 0)) (hk : k ≤ s.length) (hhi : ∀ j (h : j < s.length), k ≤ j → cmpR s[j] x > 0) (hlo : ∀ (h : 0 < k), cmpR (s[k - 1]'(by omega)) x ≤ 0) :
    (s.take k ++ [x] ++ s.drop k).Pairwise (fun x y => cmpR x y ≤ 0) ∧ (s.take k ++ [x] ++ s.drop k).Perm (s ++ [x]) := by
  have hlo' : ∀ j (h : j < s.length), j < k → cmpR s[j] x ≤ 0 := by
    intro j h hj
    by_cases e : j = k - 1
    · subst e; exact hlo (by omega)
    · exact ordR.trans _ _ _ ((List.pairwise_iff_getElem.1 hs) j (k - 1) h (by omega) (by omega)) (hlo (by omega))
  refine ⟨?_, ?_⟩
  · rw [List.pairwise_append, List.pairwise_append]
    refine ⟨⟨hs.sublist (List.take_sublist _ _), by simp, ?_⟩, hs.sublist (List.drop_sublist _ _), ?_⟩
    · intro a ha b hb
      rw [List.mem_singleton.1 hb]
      obtain ⟨j, hj, rfl⟩ := List.mem_iff_getElem.1 ha
      rw [List.getElem_take]
      rw [List.length_take] at hj
      exact hlo' j (by omega) (by omega)
    · intro a ha b hb
      obtain ⟨j, hj, rfl⟩ := List.mem_iff_getElem.1 hb
      rw [List.getElem_drop]
      rw [List.length_drop] at hj
      rcases List.mem_append.1 ha with h | h
      · obtain ⟨i, hi, rfl⟩ := List.mem_iff_getElem.1 h
        rw [List.length_take] at hi
        rw [List.getElem_take]
        exact (List.pairwise_iff_getElem.1 hs) i (k + j) (by omega) (by omega) (by omega)
      · rw [List.mem_singleton.1 h]
        have h1 := hhi (k + j) (by omega) (by omega)
        have h2 := ordR.anti (s[k + j]'(by omega)) x
        omega
  · have h1 : (s.take k ++ [x] ++ s.drop k).Perm (s.take k ++ (s.drop k ++ [x])) := by
      rw [List.append_assoc]
      exact List.Perm.append_left _ List.perm_append_comm
    rw [← List.append_assoc, List.take_append_drop] at h1
    exact h1
theorem sortR_take (l : List (List S36)) (i : Nat) (hi : i < l.length) {s : List (List S36)} (hs : s.Pairwise (fun x y => cmpR x y ≤ 0)) (hp : s.Perm (sortR (l.take i) ++ [l[i]])) : s = sortR (l.take (i + 1)) := by
  refine sortR_unique ?_ hs
  rw [List.take_succ_eq_append_getElem hi]
  exact hp.trans (List.Perm.append_right _ (sortR_perm _))
theorem refSort_ev (l : List (List S36)) (hs : ∀ r ∈ l, r.length < 4398046511104) (hl : l.length ≤ 1000) : ∀ (m i : Nat), i + m = l.length → Ev (fun k => weathercockref02_Sort.l0 k l (sortR (l.take i)) (i : Int)) (sortR l) := by
  intro m
  induction m with
  | zero =>
    intro i hi
    refine Ev.step (fun k => rfl) (ev_neg (by omega) ?_)
    rw [List.take_of_length_le (by omega)]
    exact Ev.now _
  | succ m ih =>
    intro i hi
    have hil : i < l.length := by omega
    obtain ⟨s, hsd⟩ : ∃ s, s = sortR (l.take i) := ⟨_, rfl⟩
    have hsl : s.length = i := by rw [hsd, sortR_len, List.length_take]; omega
    have hso : s.Pairwise (fun x y => cmpR x y ≤ 0) := by rw [hsd]; exact sortR_sorted _
    have hsr : ∀ r ∈ s, r.length < 4398046511104 := by
      rw [hsd]
      exact sortR_all _ (fun r hr => hs r (List.mem_of_mem_take hr))
    have hxl : l[i].length < 4398046511104 := hs _ (List.getElem_mem hil)
    have go : ∀ k (hk : k ≤ i), (∀ j (h : j < s.length), k ≤ j → cmpR s[j] l[i] > 0) → (∀ (h : 0 < k), cmpR (s[k - 1]'(by omega)) l[i] ≤ 0) → Ev (fun n => weathercockref02_Sort.l0 n l (s.take k ++ [l[i]] ++ s.drop k) (wrap64 ((i : Int) + 1))) (sortR l) := by
      intro k hk h1 h2
      obtain ⟨q1, q2⟩ := ins_at s l[i] k hso (by omega) h1 h2
      have e := sortR_take l i hil q1 (by rw [hsd] at q2 ⊢; exact q2)
      rw [e, w64_ (by omega) (by omega)]
      exact ih (i + 1) (by omega)
    have hin : ∀ (k : Nat), k ≤ i → (∀ j (h : j < s.length), k ≤ j → cmpR s[j] l[i] > 0) → Ev (fun n => weathercockref02_Sort.l1 n l s (i : Int) (k : Int)) (sortR l) := by
      intro k
      induction k with
      | zero =>
        intro hk h1
        refine Ev.step (fun k => rfl) (ev_neg (by omega) (ev_pos (by omega) (ev_pos (by omega) ?_)))
        simp only [Option.bind_some, Int.toNat_natCast, List.nil_append]
        have h3 := go 0 hk h1 (by omega)
        refine ev_pos (by simp) ?_
        try simp only [Option.bind_some]
        refine ev_pos (by omega) (ev_pos (by omega) ?_)
        rw [rd_L3_at l i hil]
        refine ev_pos (by simp; omega) (ev_pos (by simp) ?_)
        try simp only [Option.bind_some]
        refine ev_pos (by simp; omega) ?_
        exact h3
      | succ k ihk =>
        intro hk h1
        have hks : k < s.length := by omega
        have e1 : wrap64 (((k + 1 : Nat) : Int) - 1) = (k : Int) := by rw [w64_ (by omega) (by omega)]; omega
        refine Ev.step (fun k => rfl) (ev_pos (by omega) ?_)
        rw [e1]
        refine ev_pos (by omega) (ev_pos (by omega) (ev_pos (by omega) (ev_pos (by omega) ?_)))
        rw [rd_L3_at s k hks, rd_L3_at l i hil]
        refine Ev.bind (refCmp_ev s[k] l[i] (by have := hsr _ (List.getElem_mem hks); omega)) ?_
        by_cases hc : cmpR s[k] l[i] > 0
        · refine ev_pos hc ?_
          exact ihk (by omega) (fun j h hj => by
            by_cases e : j = k
            · subst e; exact hc
            · exact h1 j h (by omega))
        · refine ev_neg hc (ev_pos (by omega) (ev_pos (by omega) ?_))
          have h3 := go (k + 1) hk h1 (fun _ => by simp only [Nat.add_sub_cancel]; omega)
          simp only [Option.bind_some, Int.toNat_natCast, List.nil_append]
          refine ev_pos (by simp; omega) ?_
          try simp only [Option.bind_some]
          refine ev_pos (by simp; omega) (ev_pos (by simp; omega) ?_)
          try simp only [Option.bind_some]
          refine ev_pos (by simp; omega) ?_
          exact h3
    refine Ev.step (fun k => rfl) (ev_pos (by omega) ?_)
    rw [← hsd, show (s.length : Int) = (i : Int) by omega]
    exact hin i (Nat.le_refl _) (fun j h hj => by omega)
theorem refSort_ok (l : List (List S36)) (hs : ∀ r ∈ l, r.length < 4398046511104) (hl : l.length ≤ 1000) : ∃ k, weathercockref02_Sort.f k l = some (sortR l) := by
  have h := refSort_ev l hs hl l.length 0 (by omega)
  have e : sortR (l.take 0) = [] := List.length_eq_zero_iff.1 (by rw [sortR_len]; rfl)
  rw [e] at h
  exact h.rounds
def lstH (v : S36) : List Int := [IntKind.u64.wrap v.f0, IntKind.u64.wrap v.f1, IntKind.u64.wrap (v.f2.size : Int)] ++ (bytesOf v.f2).map IntKind.u64.wrap
theorem lstH_fold (h : Int) (v : S36) : (lstH v).foldl hashN h = hashV h v := by
  unfold lstH hashV
  rw [List.foldl_append, List.foldl_map]
  rfl
theorem hash_l2 (a : List S36) (i : Nat) (hi : i + 1 < 4611686018427387904) (r : Int) (l : List Int) (hl : l.length < 4611686018427387904) (hr : Ev (fun k => weathercockref02_Hash.l0 k a (l.foldl hashN 0) ((i + 1 : Nat) : Int)) r → True) :
    ∀ (m j : Nat) (h : Int), j + m = l.length → Ev (fun k => weathercockref02_Hash.l0 k a ((l.drop j).foldl hashN h) ((i + 1 : Nat) : Int)) r → Ev (fun k => weathercockref02_Hash.l2 k a h (i : Int) l (j : Int)) r := by
  intro m
  induction m with
  | zero =>
    intro j h hj he
    refine Ev.step (fun k => rfl) (ev_neg (by omega) ?_)
    rw [w64_ (by omega) (by omega)]
    rw [List.drop_of_length_le (by omega)] at he
    exact he
  | succ m ih =>
    intro j h hj he
    have hjl : j < l.length := by omega
    refine Ev.step (fun k => rfl) (ev_pos (by omega) (ev_pos (by omega) ?_))
    rw [w64_ (by omega) (by omega)]
    have e : rd l (j : Int) = l[j] := by unfold rd; rw [Int.toNat_natCast, List.getD_eq_getElem?_getD, List.getElem?_eq_getElem hjl]; rfl
    rw [e]
    refine ih (j + 1) _ (by omega) ?_
    rw [List.drop_eq_getElem_cons hjl, List.foldl_cons] at he
    exact he
theorem hash_l1 (a : List S36) (i : Nat) (hi : i < a.length) (hi2 : a.length < 4611686018427387904) (h r : Int) (hs : a[i].f2.size < 17592186044000) (he : Ev (fun k => weathercockref02_Hash.l0 k a (hashV h a[i]) ((i + 1 : Nat) : Int)) r) :
    ∀ (m j : Nat), j + m = a[i].f2.size → Ev (fun k => weathercockref02_Hash.l1 k a h (i : Int) ([IntKind.u64.wrap a[i].f0, IntKind.u64.wrap a[i].f1, IntKind.u64.wrap (a[i].f2.size : Int)] ++ ((bytesOf a[i].f2).take j).map IntKind.u64.wrap) (j : Int)) r := by
  have hbl : (bytesOf a[i].f2).length = a[i].f2.size := bytesOf_length _
  intro m
  induction m with
  | zero =>
    intro j hj
    refine Ev.step (fun k => rfl) (ev_pos (by omega) (ev_pos (by omega) ?_))
    rw [rdT_at a i hi]
    refine ev_neg (by omega) ?_
    rw [List.take_of_length_le (by omega)]
    refine hash_l2 a i (by omega) r (lstH a[i]) (by unfold lstH; simp; omega) (fun _ => trivial) (lstH a[i]).length 0 h (by omega) ?_
    rw [List.drop_zero, lstH_fold]
    exact he
  | succ m ih =>
    intro j hj
    refine Ev.step (fun k => rfl) (ev_pos (by omega) (ev_pos (by omega) ?_))
    rw [rdT_at a i hi]
    refine ev_pos (by omega) (ev_pos (by omega) (ev_pos (by simp; omega) ?_))
    have hjl : j < (bytesOf a[i].f2).length := by omega
    rw [w64_ (by omega) (by omega)]
    have e : bt a[i].f2 (j : Int) = (bytesOf a[i].f2)[j] := by
      rw [← rd_bytesOf]
      unfold rd
      rw [Int.toNat_natCast, List.getD_eq_getElem?_getD, List.getElem?_eq_getElem hjl]
      rfl
    have := ih (j + 1) (by omega)
    rw [List.take_succ_eq_append_getElem hjl, List.map_append, ← List.append_assoc] at this
    rw [e]
    exact this
theorem hash_l0 (a : List S36) (hs : ∀ x ∈ a, x.f2.size < 17592186044000) (hl : a.length < 4611686018427387904) : ∀ (m i : Nat) (h : Int), i + m = a.length → Ev (fun k => weathercockref02_Hash.l0 k a h (i : Int)) ((a.drop i).foldl hashV h) := by
  intro m
  induction m with
  | zero =>
    intro i h hi
    refine Ev.step (fun k => rfl) (ev_neg (by omega) ?_)
    rw [List.drop_of_length_le (by omega)]
    exact Ev.now _
  | succ m ih =>
    intro i h hi
    have hia : i < a.length := by omega
    refine Ev.step (fun k => rfl) (ev_pos (by omega) (ev_pos (by omega) ?_))
    rw [rdT_at a i hia]
    have := hash_l1 a i hia hl h ((a.drop i).foldl hashV h) (hs _ (List.getElem_mem hia)) (by
      rw [List.drop_eq_getElem_cons hia, List.foldl_cons]
      exact ih (i + 1) _ (by omega)) a[i].f2.size 0 (by omega)
    rw [List.take_zero, List.map_nil, List.append_nil] at this
    exact this
theorem refHash_ok (a : List S36) (hs : ∀ x ∈ a, x.f2.size < 17592186044000) (hl : a.length < 4611686018427387904) : ∃ k, weathercockref02_Hash.f k a = some (hashR a) := (hash_l0 a hs hl a.length 0 _ (by omega)).rounds
theorem rowHash_ok (a : List S36) (hs : ∀ x ∈ a, x.f2.size < 17592186044000) : row_Hash.f a = some (hashR a) := by
  unfold row_Hash.f
  rw [if_pos]
  unfold hashOk
  rw [List.all_eq_true]
  exact fun x hx => decide_eq_true (by have := hs x hx; omega)

end Go.Proofs.Ytplmfnjijhppaaa.QRowSorts
