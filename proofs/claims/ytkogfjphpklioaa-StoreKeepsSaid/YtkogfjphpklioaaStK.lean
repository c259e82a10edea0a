import Derived.Test.YtkogfjphpklioaaStJ
/- Store: walks by hand; the conditions stand in each theorem. -/
namespace Go.Proofs.Ytkogfjphpklioaa.QStoreNames
open Go.RowKit Go.Proofs.YtkogfjphpklioaaW.PrintWords Go.Proofs.YtkogfjphpklioaaW.PrintLast Go.Proofs.YtkogfjphpklioaaW.PrintMore
attribute [local go_sem] max2_int min2_int max_two min_two max_three min_three max_four min_four
set_option linter.unusedVariables false
set_option linter.unusedSimpArgs false
theorem ev_pos {α : Type} {c : Prop} [Decidable c] {A B : Nat → Option α} {r : α} (h : c) (k : Ev A r) : Ev (fun n => if c then A n else B n) r := Ev.congr (fun _ => if_pos h) k
theorem ev_neg {α : Type} {c : Prop} [Decidable c] {A B : Nat → Option α} {r : α} (h : ¬ c) (k : Ev B r) : Ev (fun n => if c then A n else B n) r := Ev.congr (fun _ => if_neg h) k
theorem bt_at (s : ByteArray) (j : Nat) (h : j < s.size) : bt s (j : Int) = (bytesOf s)[j]'(by rw [bytesOf_length]; exact h) := by
  rw [← bytesOf_get s j h]
  unfold bt
  rw [dif_pos (by simpa using h)]
  rw [List.getD_eq_getElem?_getD, List.getElem?_eq_getElem (by simpa using h)]
  rfl
theorem name_l0 (s : ByteArray) (hs : s.size ≤ maxLen) (b : Bool) (H : Ev (fun k => (weathercockref05_Words.f).bind fun t122 => (weathercockref05_Name.l1 k s t122 0)) b) : ∀ (m j : Nat), j + m = s.size → Ev (fun k => weathercockref05_Name.l0 k s (j : Int)) (((bytesOf s).drop j).all chI && b) := by
  intro m
  induction m with
  | zero =>
    intro j hj
    refine Ev.step (fun k => rfl) (ev_neg (by omega) ?_)
    rw [List.drop_eq_nil_of_le (by rw [bytesOf_length]; omega)]
    exact H
  | succ m ih =>
    intro j hj
    have hjs : j < s.size := by omega
    have hjb : j < (bytesOf s).length := by rw [bytesOf_length]; exact hjs
    have hw : wrap64 ((j : Int) + 1) = ((j + 1 : Nat) : Int) := by unfold maxLen at hs; unfold wrap64; omega
    refine Ev.step (fun k => rfl) (ev_pos (by omega) (ev_pos (by omega) ?_))
    rw [List.drop_eq_getElem_cons hjb, List.all_cons, ← bt_at s j hjs]
    have ih1 := ih (j + 1) (by omega)
    rw [← hw] at ih1
    generalize bt s (j : Int) = x at *
    generalize ((bytesOf s).drop (j + 1)).all chI = q at *
    unfold chI
    by_cases h1 : x < 97
    · refine ev_pos h1 ?_
      by_cases h2 : x < 48
      · refine ev_pos h2 ?_
        by_cases h3 : x = 95
        · exact absurd h3 (by omega)
        · refine ev_neg h3 ?_
          rw [decide_eq_false (by omega : ¬ 97 ≤ x), decide_eq_false (by omega : ¬ 48 ≤ x), beq_eq_false_iff_ne.2 h3]
          exact Ev.now _
      · refine ev_neg h2 ?_
        by_cases h3 : x > 57
        · refine ev_pos h3 ?_
          by_cases h4 : x = 95
          · refine ev_pos h4 ?_
            subst h4
            exact ih1
          · refine ev_neg h4 ?_
            rw [decide_eq_false (by omega : ¬ 97 ≤ x), decide_eq_false (by omega : ¬ x ≤ 57), beq_eq_false_iff_ne.2 h4]
            simpa using Ev.now false
        · refine ev_neg h3 ?_
          rw [decide_eq_false (by omega : ¬ 97 ≤ x), decide_eq_true (by omega : 48 ≤ x), decide_eq_true (by omega : x ≤ 57)]
          exact ih1
    · refine ev_neg h1 ?_
      by_cases h2 : x > 122
      · refine ev_pos h2 (ev_neg (by omega) (ev_pos (by omega) (ev_neg (by omega) ?_)))
        rw [decide_eq_false (by omega : ¬ x ≤ 122), decide_eq_false (by omega : ¬ x ≤ 57), beq_eq_false_iff_ne.2 (by omega : x ≠ 95)]
        simpa using Ev.now false
      · refine ev_neg h2 ?_
        rw [decide_eq_true (by omega : 97 ≤ x), decide_eq_true (by omega : x ≤ 122)]
        exact ih1
theorem words_eq : ∃ l : List ByteArray, weathercockref05_Words.f = some l ∧ l.map (fun w => w.toList) = WL ∧ l.length = 25 := by
  refine ⟨_, rfl, ?_, rfl⟩
  decide +kernel
theorem name_l1 (s : ByteArray) (l : List ByteArray) (hl : l.length = 25) : ∀ (m j : Nat), j + m = l.length → Ev (fun k => weathercockref05_Name.l1 k s l (j : Int)) (!decide (s.toList ∈ (l.drop j).map (fun w => w.toList))) := by
  intro m
  induction m with
  | zero =>
    intro j hj
    refine Ev.step (fun k => rfl) (ev_neg (by omega) ?_)
    rw [List.drop_eq_nil_of_le (by omega)]
    exact Ev.now _
  | succ m ih =>
    intro j hj
    have hjl : j < l.length := by omega
    have hw : wrap64 ((j : Int) + 1) = ((j + 1 : Nat) : Int) := by unfold wrap64; omega
    have hrd : rdOf ByteArray.empty l (j : Int) = l[j] := by unfold rdOf; rw [Int.toNat_natCast, List.getD_eq_getElem?_getD, List.getElem?_eq_getElem hjl]; rfl
    refine Ev.step (fun k => rfl) (ev_pos (by omega) (ev_pos (by omega) ?_))
    rw [hrd, List.drop_eq_getElem_cons hjl, List.map_cons]
    have ih1 := ih (j + 1) (by omega)
    rw [← hw] at ih1
    by_cases he : l[j].toList = s.toList
    · refine ev_pos he ?_
      rw [decide_eq_true (List.mem_cons.2 (.inl he.symm))]
      exact Ev.now _
    · refine ev_neg he ?_
      have : decide (s.toList ∈ l[j].toList :: (l.drop (j + 1)).map (fun w => w.toList)) = decide (s.toList ∈ (l.drop (j + 1)).map (fun w => w.toList)) := by
        apply decide_eq_decide.2
        rw [List.mem_cons]
        exact ⟨fun h => h.resolve_left (fun e => he e.symm), .inr⟩
      rw [this]
      exact ih1
theorem refName_ok (s : ByteArray) (hs : s.size ≤ maxLen) : Ev (fun k => weathercockref05_Name.f k s) (nameB s) := by
  have hno : Ev (fun k => weathercockref05_Name.j0 k s true) false := Ev.step (f := fun _ => some false) (fun k => by simp [weathercockref05_Name.j0]) (Ev.now _)
  have hbt : 0 ≤ bt s 0 ∧ True := ⟨by unfold bt; split <;> omega, trivial⟩
  by_cases h0 : s.size < 1
  · have e : nameB s = false := by unfold nameB; rw [decide_eq_false (by omega : ¬ 0 < s.size)]; rfl
    rw [e]
    exact ev_pos (by omega) hno
  · refine ev_neg (by omega) ?_
    by_cases h1 : s.size > 20
    · have e : nameB s = false := by unfold nameB; rw [decide_eq_false (by omega : ¬ s.size ≤ 20)]; simp
      rw [e]
      exact ev_pos (by omega) hno
    · refine ev_neg (by omega) (ev_pos (by omega) ?_)
      by_cases h2 : bt s 0 < 97
      · have e : nameB s = false := by unfold nameB; rw [decide_eq_false (by omega : ¬ 97 ≤ bt s 0)]; simp
        rw [e]
        exact ev_pos h2 hno
      · refine ev_neg h2 ?_
        by_cases h3 : bt s 0 > 122
        · have e : nameB s = false := by unfold nameB; rw [decide_eq_false (by omega : ¬ bt s 0 ≤ 122)]; simp
          rw [e, decide_eq_true h3]
          exact hno
        · rw [decide_eq_false h3]
          obtain ⟨l, hl, hm, hl25⟩ := words_eq
          have h4 := name_l1 s l hl25 25 0 (by omega)
          have h5 := name_l0 s hs (!decide (s.toList ∈ l.map (fun w => w.toList))) (Ev.congr (fun k => by rw [hl]; rfl) h4) s.size 0 (by omega)
          have e : nameB s = ((bytesOf s).all chI && !decide (s.toList ∈ l.map (fun w => w.toList))) := by
            unfold nameB
            rw [decide_eq_true (by omega : 0 < s.size), decide_eq_true (by omega : s.size ≤ 20), decide_eq_true (by omega : 97 ≤ bt s 0), decide_eq_true (by omega : bt s 0 ≤ 122), hm, Lib.toList_data]
            simp
          rw [e]
          exact Ev.step (f := fun k => weathercockref05_Name.l0 k s 0) (fun k => by simp [weathercockref05_Name.j0]) h5
theorem ref01Right_ok (v : S36) : weathercockref01_Right.f v.f0 v.f1 v.f2 = some (vR v) := by
  unfold weathercockref01_Right.f vR value_Right.f
  by_cases h0 : v.f0 = 0
  · by_cases h1 : v.f1 = 0
    · simp [h0, h1]
    · simp [h0, h1]
  · by_cases h1 : v.f0 = 1
    · simp [h1]
    · by_cases h2 : v.f0 = 2
      · by_cases h3 : v.f1 = 0
        · simp [h2, h3]
        · by_cases h4 : v.f1 = 1
          · simp [h2, h4]
          · have h5 : ¬ v.f1 / 2 = 0 := by omega
            simp [h2, h3, h4, h5]
      · by_cases h3 : v.f0 = 3
        · by_cases h4 : v.f1 = 0
          · simp [h3, h4]
          · simp [h3, h4]
        · simp [h0, h1, h2, h3]
theorem wrap_succ (j : Nat) (h : j < 4611686018427387904) : wrap64 ((j : Int) + 1) = ((j + 1 : Nat) : Int) := by unfold wrap64; omega
theorem tab_l3 (nm : ByteArray) (cols : List S38) (rows : List (List S36)) (hc : cols.length ≤ 4611686018427387904) (hro : rows.length ≤ 4611686018427387904) (i : Nat) (hi : i < rows.length) (hri : rows[i].length = cols.length) (b : Bool) (H : Ev (fun k => weathercockref05_table.l2 k ((i + 1 : Nat) : Int) nm cols rows) b) :
    ∀ (m j : Nat), j + m = cols.length → Ev (fun k => weathercockref05_table.l3 k (i : Int) (j : Int) nm cols rows) (((rows[i].zip cols).drop j).all (fun p => cellB p.1 p.2) && b) := by
  intro m
  induction m with
  | zero =>
    intro j hj
    refine Ev.step (fun k => rfl) (ev_neg (by omega) ?_)
    rw [List.drop_eq_nil_of_le (by rw [List.length_zip]; omega), wrap_succ i (by omega)]
    exact H
  | succ m ih =>
    intro j hj
    have hjc : j < cols.length := by omega
    have hjr : j < rows[i].length := by omega
    have hjz : j < (rows[i].zip cols).length := by rw [List.length_zip]; omega
    refine Ev.step (fun k => rfl) (ev_pos (by omega) (ev_pos (by omega) (ev_pos (by omega) (ev_pos (by omega) ?_))))
    rw [rdL3_at rows i hi]
    refine ev_pos (by omega) ?_
    rw [rdT36_at _ j hjr, rdT38_at cols j hjc, ref01Right_ok, List.drop_eq_getElem_cons hjz, List.all_cons, List.getElem_zip]
    simp only [Option.bind_some]
    have ih1 := ih (j + 1) (by omega)
    rw [← wrap_succ j (by omega)] at ih1
    generalize ((rows[i].zip cols).drop (j + 1)).all (fun p => cellB p.1 p.2) = q at *
    generalize rows[i][j] = v at *
    generalize cols[j] = cc at *
    unfold cellB
    cases hv : vR v with
    | false => exact ev_neg (by decide) (Ev.now _)
    | true =>
      refine ev_pos rfl ?_
      by_cases h0 : v.f0 = 0
      · refine ev_pos h0 ?_
        simpa [h0] using ih1
      · refine ev_neg h0 ?_
        by_cases h1 : v.f0 = cc.f1
        · refine ev_pos h1 ?_
          simpa [h1] using ih1
        · refine ev_neg h1 ?_
          rw [beq_eq_false_iff_ne.2 h0, beq_eq_false_iff_ne.2 h1]
          exact Ev.now _
theorem tab_l2 (nm : ByteArray) (cols : List S38) (rows : List (List S36)) (hc : cols.length ≤ 4611686018427387904) (hro : rows.length ≤ 4611686018427387904) :
    ∀ (m i : Nat), i + m = rows.length → Ev (fun k => weathercockref05_table.l2 k (i : Int) nm cols rows) ((rows.drop i).all (rowB cols)) := by
  intro m
  induction m with
  | zero =>
    intro i hi
    refine Ev.step (fun k => rfl) (ev_neg (by omega) ?_)
    rw [List.drop_eq_nil_of_le (by omega)]
    exact Ev.now _
  | succ m ih =>
    intro i hi
    have hir : i < rows.length := by omega
    refine Ev.step (fun k => rfl) (ev_pos (by omega) (ev_pos (by omega) ?_))
    rw [rdL3_at rows i hir, List.drop_eq_getElem_cons hir, List.all_cons]
    by_cases hl : rows[i].length = cols.length
    · refine ev_pos (by omega) ?_
      have h3 := tab_l3 nm cols rows hc hro i hir hl _ (ih (i + 1) (by omega)) cols.length 0 (by omega)
      have e : rowB cols rows[i] = (rows[i].zip cols).all (fun p => cellB p.1 p.2) := by unfold rowB; rw [decide_eq_true hl]; rfl
      rw [e]
      exact h3
    · refine ev_neg (by omega) ?_
      have e : rowB cols rows[i] = false := by unfold rowB; rw [decide_eq_false hl]; rfl
      rw [e]
      exact Ev.now _
instance decMem (s : ByteArray) (l : List ByteArray) : Decidable (s ∈ l) := decidable_of_iff (inB s l = true) (inB_iff s l)
theorem inB_eq (s : ByteArray) (l : List ByteArray) : inB s l = decide (s ∈ l) := by
  cases h : inB s l with
  | true => rw [decide_eq_true ((inB_iff _ _).1 h)]
  | false => rw [decide_eq_false (fun hm => by rw [(inB_iff _ _).2 hm] at h; cases h)]
def colsB (pre : List ByteArray) : List S38 → Bool
  | [] => true
  | c :: t => nameB c.f0 && kindB c && !inB c.f0 pre && colsB (pre ++ [c.f0]) t
theorem colsB_eq : ∀ (l : List S38) (pre : List ByteArray), colsB pre l = ((nms38 l).all nameB && l.all kindB && (decide (nms38 l).Nodup && decide (∀ x ∈ nms38 l, x ∉ pre)))
  | [], pre => by simp [colsB, nms38]
  | c :: t, pre => by
    rw [colsB, colsB_eq t]
    rw [Bool.eq_iff_iff]
    simp only [Bool.and_eq_true, Bool.not_eq_true', nms38, List.map_cons, List.all_cons]
    constructor
    · rintro ⟨⟨⟨h1, h2⟩, h3⟩, ⟨h4, h5⟩, h6, h7⟩
      have h6 := of_decide_eq_true h6
      have h7 := of_decide_eq_true h7
      have h3 : c.f0 ∉ pre := fun hm => by rw [(inB_iff _ _).2 hm] at h3; cases h3
      refine ⟨⟨⟨h1, h4⟩, h2, h5⟩, decide_eq_true (List.nodup_cons.2 ⟨fun hm => h7 _ hm (List.mem_append_right _ (List.mem_singleton.2 rfl)), h6⟩), decide_eq_true ?_⟩
      intro x hx
      rcases List.mem_cons.1 hx with rfl | hx
      · exact h3
      · exact fun hp => h7 x hx (List.mem_append_left _ hp)
    · rintro ⟨⟨⟨h1, h4⟩, h2, h5⟩, h8, h7⟩
      have h8 := List.nodup_cons.1 (of_decide_eq_true h8)
      have h7 := of_decide_eq_true h7
      exact ⟨⟨⟨h1, h2⟩, inB_no (h7 _ (List.mem_cons_self))⟩, ⟨h4, h5⟩, decide_eq_true h8.2, decide_eq_true (fun x hx hp => (List.mem_append.1 hp).elim (h7 x (List.mem_cons_of_mem _ hx)) (fun e => h8.1 (List.mem_singleton.1 e ▸ hx)))⟩
theorem colsB_top (l : List S38) : colsB [] l = (unlikeB (nms38 l) && l.all kindB) := by
  rw [colsB_eq]
  unfold unlikeB
  have : decide (∀ x ∈ nms38 l, x ∉ ([] : List ByteArray)) = true := decide_eq_true (fun x _ => by simp)
  rw [this, Bool.and_true]
  cases (nms38 l).all nameB <;> cases l.all kindB <;> simp
theorem tab_l1 (nm : ByteArray) (cols : List S38) (rows : List (List S36)) (hc : cols.length ≤ 4611686018427387904) (i : Nat) (hi : i < cols.length) (x : ByteArray) (z : Int) (b : Bool) (H : Ev (fun k => weathercockref05_table.l0 k ((i + 1 : Nat) : Int) nm cols rows) b) :
    ∀ (m j : Nat), j + m = i → Ev (fun k => weathercockref05_table.l1 k (i : Int) (j : Int) nm cols rows x z) (!inB x (((nms38 cols).take i).drop j) && b) := by
  intro m
  induction m with
  | zero =>
    intro j hj
    refine Ev.step (fun k => rfl) (ev_neg (by omega) ?_)
    rw [List.drop_eq_nil_of_le (by rw [List.length_take]; omega), wrap_succ i (by omega), inB_eq]
    exact H
  | succ m ih =>
    intro j hj
    have hjc : j < cols.length := by omega
    have hjt : j < ((nms38 cols).take i).length := by rw [List.length_take, nms38_len]; omega
    refine Ev.step (fun k => rfl) (ev_pos (by omega) (ev_pos (by omega) (ev_pos (by omega) ?_)))
    rw [rdT38_at cols j hjc, List.drop_eq_getElem_cons hjt, List.getElem_take, nms38_get]
    have ih1 := ih (j + 1) (by omega)
    rw [← wrap_succ j (by omega)] at ih1
    rw [inB_eq] at ih1 ⊢
    generalize ((nms38 cols).take i).drop (j + 1) = q at *
    by_cases he : cols[j].f0.toList = x.toList
    · refine ev_pos he ?_
      have he2 : x = cols[j].f0 := by
        rw [Lib.toList_data, Lib.toList_data] at he
        exact (ByteArray.ext (Array.toList_inj.1 he)).symm
      rw [decide_eq_true (List.mem_cons.2 (.inl he2))]
      exact Ev.now _
    · refine ev_neg he ?_
      have : decide (x ∈ cols[j].f0 :: q) = decide (x ∈ q) := decide_eq_decide.2 ⟨fun h => (List.mem_cons.1 h).resolve_left (fun e => he (by rw [e])), fun h => List.mem_cons.2 (.inr h)⟩
      rw [this]
      exact ih1
theorem tab_l0 (nm : ByteArray) (cols : List S38) (rows : List (List S36)) (hc : cols.length ≤ 4611686018427387904) (hro : rows.length ≤ 4611686018427387904) (hs : ∀ x ∈ cols, x.f0.size ≤ maxLen) :
    ∀ (m i : Nat), i + m = cols.length → Ev (fun k => weathercockref05_table.l0 k (i : Int) nm cols rows) (colsB ((nms38 cols).take i) (cols.drop i) && rows.all (rowB cols)) := by
  intro m
  induction m with
  | zero =>
    intro i hi
    refine Ev.step (fun k => rfl) (ev_neg (by omega) ?_)
    rw [List.drop_eq_nil_of_le (by omega)]
    exact tab_l2 nm cols rows hc hro rows.length 0 (by omega)
  | succ m ih =>
    intro i hi
    have hic : i < cols.length := by omega
    have hin : i < (nms38 cols).length := by rw [nms38_len]; exact hic
    have hbad : ∀ (y : ByteArray) (z : Int), Ev (fun k => weathercockref05_table.j2 k (i : Int) true nm cols rows y z) false := fun y z => Ev.step (f := fun _ => some false) (fun k => by simp [weathercockref05_table.j2]) (Ev.now _)
    refine Ev.step (fun k => rfl) (ev_pos (by omega) (ev_pos (by omega) ?_))
    rw [rdT38_at cols i hic, List.drop_eq_getElem_cons hic, colsB]
    have ih1 := ih (i + 1) (by omega)
    rw [List.take_succ_eq_append_getElem hin, nms38_get] at ih1
    have h1 := tab_l1 nm cols rows hc i hic cols[i].f0 cols[i].f1 _ ih1 i 0 (by omega)
    rw [List.drop_zero] at h1
    have hsz := hs _ (List.getElem_mem hic)
    generalize (nms38 cols).take i = pre at *
    generalize colsB (pre ++ [cols[i].f0]) (cols.drop (i + 1)) = q at *
    generalize cols[i] = x at *
    refine Ev.bind (refName_ok x.f0 hsz) ?_
    unfold kindB
    cases nameB x.f0 with
    | false => exact ev_neg (by decide) (hbad _ _)
    | true =>
      refine ev_pos rfl ?_
      by_cases ha : x.f1 < 1
      · rw [decide_eq_false (by omega : ¬ 1 ≤ x.f1)]
        exact ev_pos ha (hbad _ _)
      · refine ev_neg ha ?_
        by_cases hb : x.f1 > 3
        · rw [decide_eq_false (by omega : ¬ x.f1 ≤ 3), decide_eq_true hb]
          simpa using hbad x.f0 x.f1
        · rw [decide_eq_true (by omega : x.f1 ≤ 3), decide_eq_true (by omega : 1 ≤ x.f1), decide_eq_false hb]
          refine Ev.step (f := fun k => weathercockref05_table.l1 k (i : Int) 0 nm cols rows x.f0 x.f1) (fun k => by simp [weathercockref05_table.j2]) ?_
          simpa [Bool.and_assoc] using h1
theorem refTable_ok (t : S33) (ho : okT t) : Ev (fun k => weathercockref05_table.f k t.f0 t.f1 t.f2) (nameB t.f0 && tableB t) := by
  have hbad : Ev (fun k => weathercockref05_table.j0 k true t.f0 t.f1 t.f2) false := Ev.step (f := fun _ => some false) (fun k => by simp [weathercockref05_table.j0]) (Ev.now _)
  refine Ev.bind (refName_ok t.f0 ho.1) ?_
  cases nameB t.f0 with
  | false => exact ev_neg (by decide) hbad
  | true =>
    refine ev_pos rfl ?_
    rw [Bool.true_and]
    by_cases h1 : t.f1.length < 1
    · rw [table_no t (fun h => by omega)]
      exact ev_pos (by omega) hbad
    · refine ev_neg (by omega) ?_
      by_cases h2 : t.f1.length > 6
      · rw [table_no t (fun h => by omega)]
        exact ev_pos (by omega) hbad
      · refine ev_neg (by omega) ?_
        by_cases h3 : t.f2.length > 20
        · rw [table_no t (fun h => by omega), decide_eq_true (by omega : (t.f2.length : Int) > 20)]
          exact hbad
        · rw [decide_eq_false (by omega : ¬ (t.f2.length : Int) > 20)]
          have h4 := tab_l0 t.f0 t.f1 t.f2 ho.2.1 ho.2.2.1 ho.2.2.2.1 t.f1.length 0 (by omega)
          have e : tableB t = (colsB ((nms38 t.f1).take 0) (t.f1.drop 0) && t.f2.all (rowB t.f1)) := by
            rw [List.take_zero, List.drop_zero, colsB_top]
            unfold tableB
            rw [decide_eq_true (by omega : 1 ≤ t.f1.length), decide_eq_true (by omega : t.f1.length ≤ 6), decide_eq_true (by omega : t.f2.length ≤ 20)]
            simp
          rw [e]
          exact Ev.step (f := fun k => weathercockref05_table.l0 k 0 t.f0 t.f1 t.f2) (fun k => by simp [weathercockref05_table.j0]) h4
def tabsB (pre : List ByteArray) : List S33 → Bool
  | [] => true
  | c :: t => nameB c.f0 && tableB c && !inB c.f0 pre && tabsB (pre ++ [c.f0]) t
theorem tabsB_eq : ∀ (l : List S33) (pre : List ByteArray), tabsB pre l = ((nms33 l).all nameB && l.all tableB && (decide (nms33 l).Nodup && decide (∀ x ∈ nms33 l, x ∉ pre)))
  | [], pre => by simp [tabsB, nms33]
  | c :: t, pre => by
    rw [tabsB, tabsB_eq t]
    rw [Bool.eq_iff_iff]
    simp only [Bool.and_eq_true, Bool.not_eq_true', nms33, List.map_cons, List.all_cons]
    constructor
    · rintro ⟨⟨⟨h1, h2⟩, h3⟩, ⟨h4, h5⟩, h6, h7⟩
      have h6 := of_decide_eq_true h6
      have h7 := of_decide_eq_true h7
      have h3 : c.f0 ∉ pre := fun hm => by rw [(inB_iff _ _).2 hm] at h3; cases h3
      refine ⟨⟨⟨h1, h4⟩, h2, h5⟩, decide_eq_true (List.nodup_cons.2 ⟨fun hm => h7 _ hm (List.mem_append_right _ (List.mem_singleton.2 rfl)), h6⟩), decide_eq_true ?_⟩
      intro x hx
      rcases List.mem_cons.1 hx with rfl | hx
      · exact h3
      · exact fun hp => h7 x hx (List.mem_append_left _ hp)
    · rintro ⟨⟨⟨h1, h4⟩, h2, h5⟩, h8, h7⟩
      have h8 := List.nodup_cons.1 (of_decide_eq_true h8)
      have h7 := of_decide_eq_true h7
      exact ⟨⟨⟨h1, h2⟩, inB_no (h7 _ (List.mem_cons_self))⟩, ⟨h4, h5⟩, decide_eq_true h8.2, decide_eq_true (fun x hx hp => (List.mem_append.1 hp).elim (h7 x (List.mem_cons_of_mem _ hx)) (fun e => h8.1 (List.mem_singleton.1 e ▸ hx)))⟩
theorem tabsB_top (l : List S33) : tabsB [] l = (unlikeB (nms33 l) && l.all tableB) := by
  rw [tabsB_eq]
  unfold unlikeB
  have : decide (∀ x ∈ nms33 l, x ∉ ([] : List ByteArray)) = true := decide_eq_true (fun x _ => by simp)
  rw [this, Bool.and_true]
  cases (nms33 l).all nameB <;> cases l.all tableB <;> simp
theorem right_l1 (l : List S33) (hl : l.length ≤ 4611686018427387904) (i : Nat) (hi : i < l.length) (b : Bool) (H : Ev (fun k => weathercockref05_Right.l0 k l ((i + 1 : Nat) : Int)) b) :
    ∀ (m j : Nat), j + m = i → Ev (fun k => weathercockref05_Right.l1 k l (i : Int) (j : Int)) (!inB l[i].f0 (((nms33 l).take i).drop j) && b) := by
  intro m
  induction m with
  | zero =>
    intro j hj
    refine Ev.step (fun k => rfl) (ev_neg (by omega) ?_)
    rw [List.drop_eq_nil_of_le (by rw [List.length_take]; omega), wrap_succ i (by omega), inB_eq]
    exact H
  | succ m ih =>
    intro j hj
    have hjc : j < l.length := by omega
    have hjt : j < ((nms33 l).take i).length := by rw [List.length_take, nms33_len]; omega
    refine Ev.step (fun k => rfl) (ev_pos (by omega) (ev_pos (by omega) (ev_pos (by omega) (ev_pos (by omega) (ev_pos (by omega) ?_)))))
    rw [rdT33_at l j hjc, rdT33_at l i hi, List.drop_eq_getElem_cons hjt, List.getElem_take, nms33_get]
    have ih1 := ih (j + 1) (by omega)
    rw [← wrap_succ j (by omega)] at ih1
    rw [inB_eq] at ih1 ⊢
    generalize ((nms33 l).take i).drop (j + 1) = q at *
    by_cases he : l[j].f0.toList = l[i].f0.toList
    · refine ev_pos he ?_
      have he2 : l[i].f0 = l[j].f0 := by
        rw [Lib.toList_data, Lib.toList_data] at he
        exact (ByteArray.ext (Array.toList_inj.1 he)).symm
      rw [decide_eq_true (List.mem_cons.2 (.inl he2))]
      exact Ev.now _
    · refine ev_neg he ?_
      have : decide (l[i].f0 ∈ l[j].f0 :: q) = decide (l[i].f0 ∈ q) := decide_eq_decide.2 ⟨fun h => (List.mem_cons.1 h).resolve_left (fun e => he (by rw [e])), fun h => List.mem_cons.2 (.inr h)⟩
      rw [this]
      exact ih1
theorem right_l0 (l : List S33) (hl : l.length ≤ 4611686018427387904) (ho : ∀ t ∈ l, okT t) :
    ∀ (m i : Nat), i + m = l.length → Ev (fun k => weathercockref05_Right.l0 k l (i : Int)) (tabsB ((nms33 l).take i) (l.drop i)) := by
  intro m
  induction m with
  | zero =>
    intro i hi
    refine Ev.step (fun k => rfl) (ev_neg (by omega) ?_)
    rw [List.drop_eq_nil_of_le (by omega)]
    exact Ev.now _
  | succ m ih =>
    intro i hi
    have hic : i < l.length := by omega
    have hin : i < (nms33 l).length := by rw [nms33_len]; exact hic
    refine Ev.step (fun k => rfl) (ev_pos (by omega) (ev_pos (by omega) ?_))
    rw [rdT33_at l i hic, List.drop_eq_getElem_cons hic, tabsB]
    have ih1 := ih (i + 1) (by omega)
    rw [List.take_succ_eq_append_getElem hin, nms33_get] at ih1
    have h1 := right_l1 l hl i hic _ ih1 i 0 (by omega)
    rw [List.drop_zero] at h1
    refine Ev.bind (refTable_ok l[i] (ho _ (List.getElem_mem hic))) ?_
    generalize (nms33 l).take i = pre at *
    generalize tabsB (pre ++ [l[i].f0]) (l.drop (i + 1)) = q at *
    cases hz : (nameB l[i].f0 && tableB l[i]) with
    | false => exact ev_neg (by decide) (Ev.now _)
    | true =>
      refine ev_pos rfl ?_
      simpa using h1
theorem refRight_ok (l : List S33) (hl : l.length ≤ 4611686018427387904) (ho : ∀ t ∈ l, okT t) : Ev (fun k => weathercockref05_Right.f k l) (rightB l) := by
  by_cases h8 : l.length ≤ 8
  · have h := right_l0 l hl ho l.length 0 (by omega)
    have e : rightB l = tabsB ((nms33 l).take 0) (l.drop 0) := by
      rw [List.take_zero, List.drop_zero, tabsB_top]
      unfold rightB
      rw [decide_eq_true h8, Bool.true_and]
    rw [e]
    exact ev_neg (by omega) h
  · rw [right_a h8]
    exact ev_pos (by omega) (Ev.now _)

end Go.Proofs.Ytkogfjphpklioaa.QStoreNames
