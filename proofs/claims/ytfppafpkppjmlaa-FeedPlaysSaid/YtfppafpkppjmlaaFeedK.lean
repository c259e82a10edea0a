import Derived.Test.YtfppafpkppjmlaaFeedJ
/- Feed: walks of the feed's functions, by hand; the conditions stand in each theorem. -/
namespace Go.Proofs.Ytfppafpkppjmlaa.QFeedPlays
open Go.RowKit Go.Proofs.YtfppafpkppjmlaaW.PrintWords Go.Proofs.YtfppafpkppjmlaaW.PrintLast Go.Proofs.YtfppafpkppjmlaaW.PrintMore
attribute [local go_sem] max2_int min2_int max_two min_two max_three min_three max_four min_four
set_option linter.unusedVariables false
set_option linter.unusedSimpArgs false
theorem Fd.le50 {w : World} {own : Nat → Prop} {g : Nat} {most : Int} {n : Nat} {L : List S35} (h : Fd w own g most n L) : L.length ≤ 50 := by
  obtain ⟨_, _, _, _, h50, hl, _⟩ := h
  omega
theorem at_str {w : World} {A : Option Addr} {n : Nat} {xs : List ByteArray} (h : Kd.C Kd.string w A n xs) (i : Nat) (hi : i < xs.length) : ∃ ad, A = some ad ∧ w.cell? (ad.add i) = some (.string xs[i]) := by
  obtain ⟨ad, cs, e, hcl, hK, hx⟩ := Kd.C_get h (⟨#[]⟩ : ByteArray) (i : Int) (by omega) (by have := h.1; omega)
  have hcs : cs = [.string (xs.getD ((i : Int)).toNat ⟨#[]⟩)] := hK
  have hx0 := hx 0 _ (by rw [hcs]; rfl)
  rw [Int.toNat_natCast, Nat.add_zero, show i * Kd.string.sz = i from Nat.mul_one i] at hx0
  refine ⟨ad, e, hx0.trans ?_⟩
  simp [List.getD_eq_getElem?_getD, List.getElem?_eq_getElem hi]
theorem at_35 {w : World} {A : Option Addr} {n : Nat} {xs : List S35} (h : Kd.C k35 w A n xs) (i : Nat) (hi : i < xs.length) : ∃ ad, A = some ad ∧ w.cell? (ad.add (i * 2)) = some (.string xs[i].f0) ∧ w.cell? ⟨(ad.add (i * 2)).block, (ad.add (i * 2)).off + 1, none⟩ = some (.int .i64 xs[i].f1) := by
  obtain ⟨ad, e, h1, h2⟩ := at_T35 h (i : Int) (by omega) (by have := h.1; omega)
  have e1 : rd_T35 xs (i : Int) = xs[i] := by unfold rd_T35; simp [List.getD_eq_getElem?_getD, List.getElem?_eq_getElem hi]
  rw [e1, Int.toNat_natCast] at h1 h2
  exact ⟨ad, e, h1, h2⟩
theorem Q_upd {w w1 : World} {own : Nat → Prop} {base : Nat} {v : Value} {xs : List S35} (h : Kd.Q k35 35 w base (fun _ => True) v xs) (hu : Upd own w w1) (ho : ∀ j, base ≤ j → j < w.heap.size → ¬ own j) : Kd.Q k35 35 w1 base (fun _ => True) v xs :=
  Kd.Q_mono (Kd.Q_step (Kd.Q_bound h) (fun k hk hlt => hu.far k hlt (ho k hk.2.1 hlt))) (fun _ _ => trivial)
theorem clip_clip (x : Int) : clipV (clipV x) = clipV x := by
  rw [clipV_eq, clipV_eq]
  omega
theorem puts_clip (most : Int) (l : List S35) : ∀ (L : List S35), (∀ p ∈ L, clipV p.f1 = p.f1) → ∀ p ∈ putsL most L l, clipV p.f1 = p.f1 := by
  induction l with
  | nil => intro L h; exact h
  | cons q l ih =>
    intro L h
    refine ih (putL most L q.f0 (clipV q.f1)) (fun p hp => ?_)
    have h2 : p ∈ restL L q.f0 (clipV q.f1) := by
      unfold putL at hp
      split at hp
      · exact List.mem_of_mem_drop hp
      · exact hp
    unfold restL at h2
    rcases List.mem_append.1 h2 with h3 | h3
    · exact h p (List.mem_filter.1 h3).1
    · have : p = ⟨q.f0, clipV q.f1⟩ := by simpa using h3
      rw [this]
      exact clip_clip _
theorem puts_again (most : Int) (l : List S35) : ∀ (L : List S35), (keysOf (L ++ l)).Nodup → ((L ++ l).length : Int) ≤ most → (∀ p ∈ l, clipV p.f1 = p.f1) → putsL most L l = L ++ l := by
  induction l with
  | nil => intro L _ _ _; simp [putsL]
  | cons q l ih =>
    intro L hnd hl hc
    have hq : clipV q.f1 = q.f1 := hc q List.mem_cons_self
    have hk : ∀ p ∈ L, keyIs q.f0 p.f0 = false := by
      intro p hp
      refine keyIs_ne (fun e => ?_)
      unfold keysOf at hnd
      rw [List.map_append, List.nodup_append] at hnd
      exact hnd.2.2 p.f0 (List.mem_map.2 ⟨p, hp, rfl⟩) q.f0 (by simp) e
    have hr : restL L q.f0 (clipV q.f1) = L ++ [q] := by
      unfold restL
      rw [hq]
      congr 1
      rw [List.filter_eq_self]
      intro p hp
      rw [hk p hp]
      rfl
    have hp : putL most L q.f0 (clipV q.f1) = L ++ [q] := by
      unfold putL
      rw [hr, if_neg (by simp at hl ⊢; omega)]
    show putsL most (putL most L q.f0 (clipV q.f1)) l = _
    rw [hp, ih (L ++ [q]) (by simpa using hnd) (by simpa using hl) (fun p hp => hc p (List.mem_cons_of_mem _ hp))]
    simp
theorem puts_nodup (most : Int) (l : List S35) : ∀ L, (keysOf L).Nodup → (keysOf (putsL most L l)).Nodup := by
  induction l with
  | nil => intro L h; exact h
  | cons q l ih => intro L h; exact ih _ (put_nodup most L h _ _)
theorem puts_puts (m : Nat) (l : List S35) : putsL (m : Int) [] (putsL (m : Int) [] l) = putsL (m : Int) [] l :=
  puts_again (m : Int) _ [] (puts_nodup _ l [] (by simp [keysOf])) (by simpa using puts_len m l) (puts_clip _ l [] (by simp))
theorem puts_take (most : Int) (l : List S35) (m : Nat) (hm : m < l.length) : putsL most [] (l.take (m + 1)) = putL most (putsL most [] (l.take m)) l[m].f0 (clipV l[m].f1) := by
  rw [List.take_succ_eq_append_getElem hm]
  unfold putsL
  rw [List.foldl_append]
  rfl

end Go.Proofs.Ytfppafpkppjmlaa.QFeedPlays
