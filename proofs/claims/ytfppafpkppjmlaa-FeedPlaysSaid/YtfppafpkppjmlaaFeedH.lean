import Derived.Test.YtfppafpkppjmlaaFeedG
/- Feed: walks of the feed's functions, by hand; the conditions stand in each theorem. -/
namespace Go.Proofs.Ytfppafpkppjmlaa.QFeedPlays
open Go.RowKit Go.Proofs.YtfppafpkppjmlaaW.PrintWords Go.Proofs.YtfppafpkppjmlaaW.PrintLast Go.Proofs.YtfppafpkppjmlaaW.PrintMore
attribute [local go_sem] max2_int min2_int max_two min_two max_three min_three max_four min_four
set_option linter.unusedVariables false
set_option linter.unusedSimpArgs false
theorem known_l0_same (l : List S35) (hl : l.length ≤ 4611686018427387904) : ∀ d i : Nat, l.length - i ≤ d → i ≤ l.length → weathercocklaw15_known.l0 (d + 1) l l (i : Int) = some true
  | d, i, hd, hi => by
    rw [weathercocklaw15_known.l0]
    by_cases c : i < l.length
    · cases d with
      | zero => omega
      | succ d =>
        rw [if_pos (by omega), if_pos (by omega), if_pos (by omega), if_neg (by simp)]
        have e : wrap64 ((i : Int) + 1) = ((i + 1 : Nat) : Int) := by unfold wrap64; omega
        rw [e]
        exact known_l0_same l hl d (i + 1) (by omega) (by omega)
    · rw [if_neg (by omega)]
theorem known_same (A0 A1 : Option Addr) (c0 c1 n : Nat) (l : List S35) (w : World) (hn : l.length = n) (hl : n ≤ 4611686018427387904) (hr0 : Kd.C k35 w A0 n l) (hc0 : n ≤ c0) (hr1 : Kd.C k35 w A1 n l) (hc1 : n ≤ c1) :
    Calls Try.prog 11 #[.slice A0 n c0, .slice A1 n c1] w fun e w' => e = .returned (.bool true) ∧ Below w.heap.size w w' := by
  subst hn
  have hf : weathercocklaw15_known.f (l.length + 1) l l = some true := by
    unfold weathercocklaw15_known.f
    rw [if_pos rfl]
    exact known_l0_same l hl l.length 0 (by omega) (by omega)
  refine (weathercocklaw15_known.calls (l.length + 1) A0 c0 l A1 c1 l true w hr0 hc0 hr1 hc1 hf).mono ?_
  rintro e w' ⟨rfl, ⟨m, rfl⟩⟩
  exact ⟨rfl, pw_below_drewN (Below.refl _ _) m⟩
theorem lit2 (W : World) (p q : S35) : Kd.C k35 (W.alloc (.cells #[.string p.f0, .int .i64 p.f1, .string q.f0, .int .i64 q.f1] 35)) (some ⟨W.heap.size, 0, none⟩) 2 [p, q] := by
  have hb := blk_new W (.cells #[.string p.f0, .int .i64 p.f1, .string q.f0, .int .i64 q.f1] 35)
  have hc := fun o => blk_cell hb o
  refine ⟨rfl, by decide, fun _ => ⟨_, rfl, fun j x hj => ?_⟩⟩
  match j, hj with
  | 0, hj =>
    have : p = x := by simpa using hj
    subst this
    refine ⟨_, rfl, k35_mk _ _, fun i u hu => ?_⟩
    match i, hu with
    | 0, hu => exact (hc 0).trans (by simpa using hu)
    | 1, hu => exact (hc 1).trans (by simpa using hu)
    | i + 2, hu => simp at hu
  | 1, hj =>
    have : q = x := by simpa using hj
    subst this
    refine ⟨_, rfl, k35_mk _ _, fun i u hu => ?_⟩
    match i, hu with
    | 0, hu => exact (hc 2).trans (by simpa using hu)
    | 1, hu => exact (hc 3).trans (by simpa using hu)
    | i + 2, hu => simp at hu
  | j + 2, hj => simp at hj
/- A put, where all that is of the feed lies from b on. -/
theorem feed_Put_b (b : Nat) (W0 W : World) (g : Nat) (most : Int) (n : Nat) (L : List S35) (k : ByteArray) (x : Int) (h : Fd W (fun j => b ≤ j) g most n L) (hb : Below b W0 W) (hbs : b ≤ W.heap.size) (hk : k.size ≤ maxLen) (hn : n < maxLen) :
    Calls Try.prog 15 #[.pointer (some ⟨g, 0, none⟩), .string k, .int .i64 x] W fun e w' => e = .returned (.tuple #[]) ∧ Fd w' (fun j => b ≤ j) g most (n + 1) (putL most L k (clipV x)) ∧ Below b W0 w' ∧ b ≤ w'.heap.size := by
  refine (feed_Put W _ g most n L k x h hk hn).mono ?_
  rintro e w' ⟨rfl, h1, h2⟩
  exact ⟨rfl, h1.far (fun j hj => by rcases hj with h | h; exact h; exact Nat.le_trans hbs h) (fun _ _ _ => rfl), hb.trans (h2.below hbs (fun _ h => h)), Nat.le_trans hbs h2.size⟩
def kA : ByteArray := ⟨#[97]⟩
def kB : ByteArray := ⟨#[98]⟩
def kC : ByteArray := ⟨#[99]⟩
theorem ex_list : putL 2 (putL 2 (putL 2 (putL 2 [] kA (clipV 1)) kB (clipV 2)) kA (clipV 3)) kC (clipV (-4)) = [⟨kA, 3⟩, ⟨kC, 0⟩] := by
  have ab : keyIs kA kB = false := keyIs_ne (by unfold kA kB; simp)
  have ba : keyIs kB kA = false := keyIs_ne (by unfold kA kB; simp)
  have ca : keyIs kC kA = false := keyIs_ne (by unfold kA kC; simp)
  have cb : keyIs kC kB = false := keyIs_ne (by unfold kB kC; simp)
  have v1 : clipV 3 = 3 := by rw [clipV_eq]; decide
  have v2 : clipV (-4) = 0 := by rw [clipV_eq]; decide
  simp [putL, restL, ab, ba, ca, cb, keyIs_self, v1, v2]
set_option maxHeartbeats 4000000 in
theorem feed_examples (W : World) : Calls Try.prog 7 #[] W fun e w' => e = .returned (.bool true) ∧ Below W.heap.size W w' := by
  go_enter Try.func7, Try.ntmps7
  go_wp2_with (first
    | (go_at_call 8; refine (feed_New W 2).mono ?_; rintro e w1 ⟨g, rfl, hf1, hb1⟩; rw [show mn (mx 2 0) 50 = 2 by decide] at hf1; have HF := Aside0.mk hf1; have HB := Aside0.mk hb1; have HS := Aside0.mk hb1.size; clear hf1 hb1)
    | (go_at_call 15; refine (feed_Put_b W.heap.size W _ g 2 _ _ _ _ HF.out HB.out HS.out (by decide) (by decide)).mono ?_; clear HF HB HS; rintro e w1 ⟨rfl, hf1, hb1, hs1⟩; have HF := Aside0.mk hf1; have HB := Aside0.mk hb1; have HS := Aside0.mk hs1; clear hf1 hb1 hs1)
    | (go_at_call 10; have hf1 := HF.out; rw [show (⟨#[97]⟩ : ByteArray) = kA from rfl, show (⟨#[98]⟩ : ByteArray) = kB from rfl, show (⟨#[99]⟩ : ByteArray) = kC from rfl, ex_list] at hf1; refine (feed_All _ _ g 2 _ _ hf1).mono ?_; rintro e w1 ⟨A9, c9, rfl, hc9, hq9, hb9⟩; have hf2 := hf1.far (w1 := w1) (own1 := fun _ => True) (fun _ _ => trivial) (fun j _ hj => hb9.block j hj); have HF2 := Aside0.mk hf2; have HQ := Aside0.mk (Kd.Q_reads' hq9).2.2; have HC := Aside0.mk hc9; have hb2 := HB.out.trans (hb9.mono HS.out); have HS2 := Aside0.mk (Nat.le_trans HS.out hb9.size); clear HB HS HF hf1 hf2 hb9 hq9 hc9; have HB := Aside0.mk hb2; have HS := HS2; clear HS2 hb2; have HLit := Aside0.mk (lit2 w1 ⟨kA, 3⟩ ⟨kC, 0⟩))
    | (go_at_call 11; refine (known_same _ _ _ _ 2 [⟨kA, 3⟩, ⟨kC, 0⟩] _ rfl (by decide) (Kd.C_alloc HQ.out _) HC.out HLit.out (Nat.le_refl _)).mono ?_; rintro e w2 ⟨rfl, hb3⟩; have hf3 := HF2.out.far (w1 := w2) (own1 := fun _ => True) (fun _ _ => trivial) (fun j _ hj => (hb3.block j (by simp; omega)).trans (Below.heap_alloc _ _ j hj)); have HF3 := Aside0.mk hf3; have hb4 := (HB.out.trans ((below_alloc (Below.refl _ _) _).mono HS.out)).trans (hb3.mono (by have := HS.out; simp; omega)); clear HB; have HB := Aside0.mk hb4; clear hb4 hb3 hf3)
    | (go_at_call 12; refine (feed_Len _ _ g 2 _ _ HF3.out).mono ?_; rintro e w3 ⟨rfl, rfl⟩))
  go_ret
  exact ⟨rfl, HB.out⟩

end Go.Proofs.Ytfppafpkppjmlaa.QFeedPlays
