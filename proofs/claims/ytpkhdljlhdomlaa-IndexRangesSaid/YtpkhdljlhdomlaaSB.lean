import Derived.Test.YtpkhdljlhdomlaaSA
/- The stable sort of slices: walks by hand; the conditions stand in each theorem. -/
namespace Go.Proofs.Ytpkhdljlhdomlaa.QSort
open Go.Shelf Go.RowKit Go.Lib Go.Sort Go.Proofs
set_option linter.unusedVariables false
set_option linter.unusedSimpArgs false
set_option linter.unusedSectionVars false
variable {α : Type} [Inhabited α]
def swpAt (a b n p : Nat) : Nat := if a ≤ p ∧ p < a + n then p + (b - a) else if b ≤ p ∧ p < b + n then p - (b - a) else p
theorem swpAt_step {d dk : Array α} {a b n : Nat} (hn : a + n < b) (hb : b + n < d.size) (hs : dk.size = d.size) (h : ∀ p, dk[p]! = d[swpAt a b n p]!) (p : Nat) : (swp dk (a + n) (b + n))[p]! = d[swpAt a b (n + 1) p]! := by
  by_cases c1 : p = a + n
  · rw [c1, swp_left _ _ _ (by omega) (by omega), h]
    unfold swpAt
    rw [if_neg (by omega), if_neg (by omega), if_pos (by omega)]
    congr 1; omega
  · by_cases c2 : p = b + n
    · rw [c2, swp_right _ _ _ (by omega), h]
      unfold swpAt
      rw [if_neg (by omega), if_neg (by omega), if_neg (by omega), if_pos (by omega)]
      congr 1; omega
    · rw [swp_other _ _ _ _ c1 c2, h]
      have e : swpAt a b (n + 1) p = swpAt a b n p := by
        unfold swpAt
        split <;> split <;> (try split) <;> (try split) <;> omega
      rw [e]
set_option maxHeartbeats 16000000 in
set_option maxRecDepth 1000000 in
theorem so_swapRange (enc : α → Value) (blk off cap a b n : Nat) (d0 d : Array α) (w0 w : World) (fv : Value) (R : Row1 enc w0 blk off d0) (hs : d.size = d0.size) (S : SW enc w0 blk off d w) (hsz : d.size < 4611686018427387904) (hab : a + n ≤ b) (hb : b + n ≤ d.size) :
    Calls Try.prog 36 #[.slice (some ⟨blk, off, none⟩) d.size cap, .int .i64 a, .int .i64 b, .int .i64 n, fv] w fun e w' => e = .returned (.tuple #[]) ∧ ∃ d', SW enc w0 blk off d' w' ∧ d'.size = d.size ∧ (∀ p, d'[p]! = d[swpAt a b n p]!) ∧ ∀ lo hi, lo ≤ a → b + n ≤ hi → hi ≤ d.size → PermIn lo hi d d' := by
  have mixed : Try.prog.follows Departure.mixedOrders = true := by kernel_rfl
  have hu34 := run_underlying Try.underlying31
  have hcl0 := R.hO.cells
  simp only [Value.cells] at hcl0
  have hst := R.hO.store Try.prog
  have S0 : Aside (SW enc w0 blk off d w) := S
  clear S
  go_enter Try.func36, Try.ntmps36
  go_wp2
  go_loopw [10] (fun s10 wr => ∃ (i : Nat) (dk : Array α), i ≤ n ∧ s10 = .int .i64 i ∧ dk.size = d.size ∧ Aside (SW enc w0 blk off dk wr) ∧ Aside (∀ p, dk[p]! = d[swpAt a b i p]!) ∧ Aside (∀ lo hi, lo ≤ a → b + n ≤ hi → hi ≤ d.size → PermIn lo hi d dk)) (fun i _ => n - (intOf i).toNat)
  case atStart => exact ⟨0, d, Nat.zero_le _, rfl, rfl, S0, fun p => by unfold swpAt; rw [if_neg (by omega), if_neg (by omega)], fun lo hi _ _ _ => permIn_refl d lo hi⟩
  case round =>
    clear S0
    obtain ⟨i, dk, hi, rfl, hsk, S1, HE, HP⟩ := hrel
    by_cases hlt : i < n
    · have hltz : (i : Int) < (n : Int) := by omega
      obtain ⟨iN, hiN⟩ : ∃ q, q = a + i := ⟨_, rfl⟩
      obtain ⟨jN, hjN⟩ : ∃ q, q = b + i := ⟨_, rfl⟩
      have ea : ((a : Int) + (i : Int)).toNat = iN := by omega
      have pa : (0 : Int) ≤ (a : Int) + (i : Int) := by omega
      have ba : (a : Int) + (i : Int) < (d.size : Int) := by omega
      have ra : IntKind.i64.wrap ((a : Int) + (i : Int)) = (a : Int) + (i : Int) := by rw [IntKind.wrap_i64]; omega
      have eb : ((b : Int) + (i : Int)).toNat = jN := by omega
      have pb : (0 : Int) ≤ (b : Int) + (i : Int) := by omega
      have bb : (b : Int) + (i : Int) < (d.size : Int) := by omega
      have rb : IntKind.i64.wrap ((b : Int) + (i : Int)) = (b : Int) + (i : Int) := by rw [IntKind.wrap_i64]; omega
      have hia : iN < d.size := by omega
      have hja : jN < d.size := by omega
      obtain ⟨x, hx⟩ : ∃ x, x = dk[iN]! := ⟨_, rfl⟩
      obtain ⟨y, hy⟩ : ∃ x, x = dk[jN]! := ⟨_, rfl⟩
      have S3 : Aside (SW enc w0 blk off (swp dk iN jN) ((wr.setCell ⟨blk, off + iN, none⟩ (enc y)).setCell ⟨blk, off + jN, none⟩ (enc x)).drew) := by rw [hx, hy]; exact S1.out.swapped R iN jN (by omega) (by omega)
      have ca := S1.out.c1 R (by omega) iN (by omega)
      have cb := S1.out.c1 R (by omega) jN (by omega)
      have fa := S1.out.f1 R (by omega) iN (by omega)
      have fb := S1.out.f1 R (by omega) jN (by omega)
      obtain ⟨u, cc⟩ := S1.out.c2 R (by omega) iN jN (by omega) (by omega) (enc y)
      rw [← hx] at ca
      rw [← hy] at cb
      have HE2 : Aside (∀ p, (swp dk iN jN)[p]! = d[swpAt a b (i + 1) p]!) := by
        rw [hiN, hjN]; exact fun p => swpAt_step (by omega) (by omega) hsk HE.out p
      have HP2 : Aside (∀ lo hi, lo ≤ a → b + n ≤ hi → hi ≤ d.size → PermIn lo hi d (swp dk iN jN)) := fun lo hi h1 h2 h3 => permIn_trans _ _ _ _ _ (HP.out lo hi h1 h2 h3) (swp_permIn dk lo hi iN jN (by omega) (by omega) (by omega) (by omega) (by omega))
      have hsk2 : (swp dk iN jN).size = d.size := by rw [size_swp]; exact hsk
      clear S1 hx hy hiN hjN HE HP
      go_wp2_with fail
      go_big_region_o
      generalize ((wr.setCell ⟨blk, off + iN, none⟩ (enc y)).setCell ⟨blk, off + jN, none⟩ (enc x)).drew = w3 at S3 ⊢
      clear ca cb cc fa fb ea eb
      go_wp2
      go_roundw
      case rel => exact ⟨i + 1, swp dk iN jN, by omega, by go_num, hsk2, S3, HE2, HP2⟩
      case measure => simp [intOf]; omega
    · have hin : i = n := by omega
      subst hin
      go_wp2
      go_end0
      exact ⟨rfl, dk, S1.out, hsk, HE.out, HP.out⟩
variable {α : Type} [Inhabited α]
theorem rot_big {m i j p : Nat} (him : i ≤ m) (hji : j < i) : swpAt (m - i) m j (rotAt (m - (i - j)) m (m + j) p) = rotAt (m - i) m (m + j) p := by
  unfold swpAt rotAt
  split <;> split <;> (try split) <;> (try split) <;> (try split) <;> (try split) <;> omega
theorem rot_small {m i j p : Nat} (him : i ≤ m) (hij : i < j) : swpAt (m - i) (m + j - i) i (rotAt (m - i) m (m + (j - i)) p) = rotAt (m - i) m (m + j) p := by
  unfold swpAt rotAt
  split <;> split <;> (try split) <;> (try split) <;> (try split) <;> (try split) <;> omega
theorem rot_even {m i p : Nat} (him : i ≤ m) : swpAt (m - i) m i p = rotAt (m - i) m (m + i) p := by
  unfold swpAt rotAt
  split <;> split <;> (try split) <;> (try split) <;> omega
set_option maxHeartbeats 16000000 in
theorem so_rotate (enc : α → Value) (blk off cap a m b : Nat) (d0 d : Array α) (w0 w : World) (fv : Value) (R : Row1 enc w0 blk off d0) (hs : d.size = d0.size) (S : SW enc w0 blk off d w) (hsz : d.size < 4611686018427387904) (ham : a < m) (hmb : m < b) (hb : b ≤ d.size) :
    Calls Try.prog 35 #[.slice (some ⟨blk, off, none⟩) d.size cap, .int .i64 a, .int .i64 m, .int .i64 b, fv] w fun e w' => e = .returned (.tuple #[]) ∧ ∃ d', SW enc w0 blk off d' w' ∧ d'.size = d.size ∧ (∀ p, d'[p]! = d[rotAt a m b p]!) ∧ ∀ lo hi, lo ≤ a → b ≤ hi → hi ≤ d.size → PermIn lo hi d d' := by
  have S0 : Aside (SW enc w0 blk off d w) := S
  have HSd : Aside (d.size = d0.size) := hs
  clear S hs
  obtain ⟨i0, hi0⟩ : ∃ q, m - a = q := ⟨_, rfl⟩
  obtain ⟨j0, hj0⟩ : ∃ q, b - m = q := ⟨_, rfl⟩
  go_enter Try.func35, Try.ntmps35
  go_wp2
  go_loopw [10, 11] (fun s10 s11 wr => ∃ (i j : Nat) (dk : Array α), 0 < i ∧ i ≤ i0 ∧ 0 < j ∧ j ≤ j0 ∧ s10 = .int .i64 i ∧ s11 = .int .i64 j ∧ dk.size = d.size ∧ Aside (SW enc w0 blk off dk wr) ∧ Aside (∀ p, dk[rotAt (m - i) m (m + j) p]! = d[rotAt a m b p]!) ∧ Aside (∀ lo hi, lo ≤ a → b ≤ hi → hi ≤ d.size → PermIn lo hi d dk)) (fun i j _ => (intOf i).toNat + (intOf j).toNat)
  case atStart => exact ⟨i0, j0, d, by omega, Nat.le_refl _, by omega, Nat.le_refl _, by go_num, by go_num, rfl, S0, fun p => by rw [show m - i0 = a by omega, show m + j0 = b by omega], fun lo hi _ _ _ => permIn_refl d lo hi⟩
  case round =>
    clear S0
    obtain ⟨i, j, dk, hi, hi1, hj, hj1, rfl, rfl, hsk, S1, HE, HP⟩ := hrel
    obtain ⟨mi, hmi0⟩ : ∃ q, m - i = q := ⟨_, rfl⟩
    have emi : ((mi : Nat) : Int) = (m : Int) - (i : Int) := by omega
    by_cases hne : i = j
    · subst hne
      have hC0 := so_swapRange enc blk off cap mi m i d0 dk w0 wr fv R (by have := HSd.out; omega) S1.out (by omega) (by omega) (by omega)
      rw [hsk, emi] at hC0
      have hC := Sd.mk hC0
      clear hC0
      clear S1 emi
      go_wp2_with (go_at_call 36; refine hC.out.mono ?_; rintro e w5 ⟨rfl, d', h1, h2, h3, h4⟩; have H1 : Aside _ := h1; have H3 : Aside _ := h3; have H4 : Aside _ := h4; clear h1 h3 h4 hC)
      go_end0
      refine ⟨rfl, d', H1.out, by omega, fun p => ?_, fun lo hi h5 h6 h7 => permIn_trans _ _ _ _ _ (HP.out lo hi h5 h6 h7) (H4.out lo hi (by omega) (by omega) (by omega))⟩
      rw [H3.out p, ← HE.out p, ← hmi0, rot_even (by omega)]
    · by_cases hgt : j < i
      · have hC0 := so_swapRange enc blk off cap mi m j d0 dk w0 wr fv R (by have := HSd.out; omega) S1.out (by omega) (by omega) (by omega)
        rw [hsk, emi] at hC0
        have hC := Sd.mk hC0
        clear hC0
        obtain ⟨ij, hij0⟩ : ∃ q, i - j = q := ⟨_, rfl⟩
        clear S1 emi
        go_wp2_with (go_at_call 36; refine hC.out.mono ?_; rintro e w5 ⟨rfl, d', h1, h2, h3, h4⟩; have H1 : Aside _ := h1; have H3 : Aside _ := h3; have H4 : Aside _ := h4; clear h1 h3 h4 hC)
        go_roundw
        case rel => exact ⟨ij, j, d', by omega, by omega, hj, hj1, by go_num, by go_num, by omega, H1, fun p => by rw [H3.out, ← HE.out p, ← hmi0, ← hij0, rot_big (by omega) (by omega)], fun lo hi h5 h6 h7 => permIn_trans _ _ _ _ _ (HP.out lo hi h5 h6 h7) (H4.out lo hi (by omega) (by omega) (by omega))⟩
        case measure => simp [intOf]; omega
      · obtain ⟨mj, hmj0⟩ : ∃ q, m + j = q := ⟨_, rfl⟩
        obtain ⟨mji, hmji0⟩ : ∃ q, mj - i = q := ⟨_, rfl⟩
        have emji : ((mji : Nat) : Int) = (m : Int) + (j : Int) - (i : Int) := by omega
        have hC0 := so_swapRange enc blk off cap mi mji i d0 dk w0 wr fv R (by have := HSd.out; omega) S1.out (by omega) (by omega) (by omega)
        rw [hsk, emi, emji] at hC0
        have hC := Sd.mk hC0
        clear hC0
        obtain ⟨ji, hji0⟩ : ∃ q, j - i = q := ⟨_, rfl⟩
        clear S1 emi emji
        go_wp2_with (go_at_call 36; refine hC.out.mono ?_; rintro e w5 ⟨rfl, d', h1, h2, h3, h4⟩; have H1 : Aside _ := h1; have H3 : Aside _ := h3; have H4 : Aside _ := h4; clear h1 h3 h4 hC)
        go_roundw
        case rel => exact ⟨i, ji, d', hi, hi1, by omega, by omega, by go_num, by go_num, by omega, H1, fun p => by rw [H3.out, ← HE.out p, ← hmi0, ← hji0, ← hmji0, ← hmj0, rot_small (by omega) (by omega)], fun lo hi h5 h6 h7 => permIn_trans _ _ _ _ _ (HP.out lo hi h5 h6 h7) (H4.out lo hi (by omega) (by omega) (by omega))⟩
        case measure => simp [intOf]; omega

end Go.Proofs.Ytpkhdljlhdomlaa.QSort
