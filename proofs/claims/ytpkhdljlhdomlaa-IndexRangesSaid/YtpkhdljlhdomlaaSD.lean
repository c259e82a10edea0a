import Derived.Test.YtpkhdljlhdomlaaSA
import Derived.Test.YtpkhdljlhdomlaaSB
/- The stable sort of slices: walks by hand; the conditions stand in each theorem. -/
namespace Go.Proofs.Ytpkhdljlhdomlaa.QSort
open Go.Shelf Go.RowKit Go.Lib Go.Sort Go.Proofs
set_option linter.unusedVariables false
set_option linter.unusedSimpArgs false
set_option linter.unusedSectionVars false
variable {α : Type} [Inhabited α]
theorem rot_down {d dk : Array α} {i k m : Nat} (hi : i < k) (hk : k ≤ m) (hb : m < d.size) (hs : dk.size = d.size) (h : ∀ p, dk[p]! = d[rotAt k m (m + 1) p]!) (p : Nat) : (swp dk k (k - 1))[p]! = d[rotAt (k - 1) m (m + 1) p]! := by
  by_cases c1 : p = k
  · rw [c1, swp_left _ _ _ (by omega) (by omega), h]
    have e : rotAt k m (m + 1) (k - 1) = rotAt (k - 1) m (m + 1) k := by unfold rotAt; split <;> split <;> (try split) <;> (try split) <;> omega
    rw [e]
  · by_cases c2 : p = k - 1
    · rw [c2, swp_right _ _ _ (by omega), h]
      have e : rotAt k m (m + 1) k = rotAt (k - 1) m (m + 1) (k - 1) := by unfold rotAt; split <;> split <;> (try split) <;> (try split) <;> omega
      rw [e]
    · rw [swp_other _ _ _ _ c1 c2, h]
      have e : rotAt k m (m + 1) p = rotAt (k - 1) m (m + 1) p := by unfold rotAt; split <;> split <;> (try split) <;> (try split) <;> omega
      rw [e]
theorem rot_none {d : Array α} {m p : Nat} : d[p]! = d[rotAt m m (m + 1) p]! := by
  have e : rotAt m m (m + 1) p = p := by unfold rotAt; split <;> (try split) <;> omega
  rw [e]
set_option maxHeartbeats 16000000 in
set_option maxRecDepth 1000000 in
theorem so_sym_right (enc : α → Value) (cf : α → α → Int) (g : Nat) (cb : Array Value) (blk off cap a m b : Nat) (d0 d : Array α) (w0 w : World) (lts : α → α → Bool) (Ok : α → α → Prop)
    (eg : ∀ args w, (callFunc g args).run Try.prog w = .ok (.enter g args) w) (h0 : Sd (w0.drawn = 0)) (hcmp : CmpB Try.prog g cb enc cf blk off d0.size w0) (R : Row1 enc w0 blk off d0) (hs : d.size = d0.size) (S : SW enc w0 blk off d w) (hsz : d.size < 4611686018427387904)
    (hS : SWO lts) (hag : ∀ x y, Ok x y → ltOf cf y x = lts y x) (hm : a + 1 < m) (hbm : b = m + 1) (hb : b ≤ d.size) (h1 : SortedIn lts a m d) (hok : OkIn Ok a m b d) :
    Calls Try.prog 34 #[.slice (some ⟨blk, off, none⟩) d.size cap, .int .i64 a, .int .i64 m, .int .i64 b, .func (.func g) #[] cb] w fun e w' => e = .returned (.tuple #[]) ∧ ∃ d', SW enc w0 blk off d' w' ∧ d'.size = d.size ∧ PermIn a b d d' ∧ SortedIn lts a b d' := by
  have mixed : Try.prog.follows Departure.mixedOrders = true := by kernel_rfl
  have hu34 := run_underlying Try.underlying31
  have hcl0 := R.hO.cells
  simp only [Value.cells] at hcl0
  have hst := R.hO.store Try.prog
  have HC := Sd.mk hcmp
  have HSd := Sd.mk hs
  have HSW := Sd.mk hS
  have HAG := Sd.mk hag
  have H1 := Sd.mk h1
  have HOK := Sd.mk hok
  have S0 : Aside (SW enc w0 blk off d w) := S
  have HM := Sd.mk hbm
  have hma : ¬ (m : Int) - (a : Int) = 1 := by omega
  have hq1 : ((m : Int) - (a : Int) == 1) = false := by simp; omega
  have hbz : (b : Int) - (m : Int) = 1 := by omega
  have ham : a < m := by omega
  have HMD : Sd (m < d.size) := ⟨by omega⟩
  clear S hcmp hs hS hag h1 hok hbm
  go_enter Try.func34, Try.ntmps34
  go_wp2
  go_loopw [14, 15] (fun s14 s15 wr => ∃ i j : Nat, a ≤ i ∧ i ≤ j ∧ j ≤ m ∧ s14 = .int .i64 i ∧ s15 = .int .i64 j ∧ Aside (SW enc w0 blk off d wr) ∧ Sd (∀ k, a ≤ k → k < i → lts d[m]! d[k]! = false) ∧ Sd (∀ k, j ≤ k → k < m → lts d[m]! d[k]! = true)) (fun i j _ => (intOf j - intOf i).toNat)
  case atStart => exact ⟨a, m, Nat.le_refl _, by omega, Nat.le_refl _, rfl, rfl, S0, ⟨fun k h1 h2 => by omega⟩, ⟨fun k h1 h2 => by omega⟩⟩
  case round =>
    clear S0
    obtain ⟨i, j, hmi, hij, hjb, rfl, rfl, S1, HT, HF⟩ := hrel
    by_cases hlt : i < j
    · go_wp2_with fail
      obtain ⟨h, hh⟩ : ∃ h, h = (i + j) / 2 := ⟨_, rfl⟩
      have hh1 : i ≤ h ∧ h < j := by omega
      obtain ⟨y, hy⟩ : ∃ y, y = d[h]! := ⟨_, rfl⟩
      obtain ⟨x, hx⟩ : ∃ x, x = d[m]! := ⟨_, rfl⟩
      have la := sw_clB S1.out h0 R (HSd.out) m (HMD.out)
      have lb := sw_clB S1.out h0 R (HSd.out) h (by omega)
      rw [← hx] at la
      rw [← hy] at lb
      have hc := sw_cmpB S1.out h0 HC.out HSd.out x y
      have e1 : ((i : Int) + (j : Int)) / 2 = (h : Int) := by omega
      rw [e1]
      clear e1
      have hha : h < d.size := by omega
      have HXY := Sd.mk (And.intro hx hy)
      have HH := Sd.mk hh
      clear hx hy hh
      cases hv : ltOf cf x y with
      | true =>
        have hv1 : cf x y < 0 := of_decide_eq_true hv
        have hd1 : decide (cf x y < 0) = true := decide_eq_true hv1
        have HV := Sd.mk hv
        clear hv
        have hmd := HMD.out
        refine wp_region_quiet_below (by assumption) (by kernel_rfl) ?_
        repeat (quiet_step (first | (go_at_fn g; refine hc _ _)))
        refine wpQuiet_nil ?_
        intro _ hw'
        obtain ⟨⟨nq, osq⟩, hw''⟩ := hw'
        subst hw''
        have S2 : Aside (SW enc w0 blk off d (grow (redrawn wr nq) osq)) := sw_regrown S1.out h0 nq osq
        clear la lb hc S1 hmd
        generalize grow (redrawn wr nq) osq = w2 at S2 ⊢
        clear nq osq
        go_wp2
        go_roundw
        case rel =>
          have hx := HXY.out.1
          have hy := HXY.out.2
          have hm := HM.out
          have h3 : lts d[m]! d[h]! = true := by
            rw [← HAG.out _ _ (HOK.out h m (by omega) (by omega) (by omega) (by omega)), ← hx, ← hy]; exact HV.out
          exact ⟨i, h, hmi, by omega, by omega, rfl, by go_num, S2, HT, ⟨fun k h4 h5 => by
            by_cases c : k = h
            · rw [c]; exact h3
            · exact above_true HSW.out (H1.out h k (by omega) (by omega) (by omega)) h3⟩⟩
        case measure => simp [intOf]; omega
      | false =>
        have hv1 : ¬ cf x y < 0 := of_decide_eq_false hv
        have hd1 : decide (cf x y < 0) = false := decide_eq_false hv1
        have HV := Sd.mk hv
        clear hv
        have hmd := HMD.out
        refine wp_region_quiet_below (by assumption) (by kernel_rfl) ?_
        repeat (quiet_step (first | (go_at_fn g; refine hc _ _)))
        refine wpQuiet_nil ?_
        intro _ hw'
        obtain ⟨⟨nq, osq⟩, hw''⟩ := hw'
        subst hw''
        have S2 : Aside (SW enc w0 blk off d (grow (redrawn wr nq) osq)) := sw_regrown S1.out h0 nq osq
        clear la lb hc S1 hmd
        generalize grow (redrawn wr nq) osq = w2 at S2 ⊢
        clear nq osq
        go_wp2
        go_roundw
        case rel =>
          have hx := HXY.out.1
          have hy := HXY.out.2
          have hm := HM.out
          have h3 : lts d[m]! d[h]! = false := by
            rw [← HAG.out _ _ (HOK.out h m (by omega) (by omega) (by omega) (by omega)), ← hx, ← hy]; exact HV.out
          exact ⟨h + 1, j, by omega, by omega, hjb, by go_num, rfl, S2, ⟨fun k h4 h5 => by
            by_cases c : k = h
            · rw [c]; exact h3
            · exact swo_le HSW.out (H1.out k h (by omega) (by omega) (by omega)) h3⟩, HF⟩
        case measure => simp [intOf]; omega
    · have hji : j = i := by omega
      subst hji
      have S0 : Aside (SW enc w0 blk off d wr) := S1.out
      clear S1
      go_wp2
      go_loopw [17] (fun s17 wr => ∃ (k : Nat) (dk : Array α), j ≤ k ∧ k ≤ m ∧ s17 = .int .i64 k ∧ dk.size = d.size ∧ Aside (SW enc w0 blk off dk wr) ∧ Sd (∀ p, dk[p]! = d[rotAt k m (m + 1) p]!) ∧ Sd (PermIn a b d dk)) (fun k _ => (intOf k).toNat)
      case atStart => exact ⟨m, d, by omega, Nat.le_refl _, rfl, rfl, S0, ⟨fun p => rot_none⟩, ⟨permIn_refl d a b⟩⟩
      case round =>
        clear S0
        obtain ⟨k, dk, hak, hkj, rfl, hsk, S1, HE, HP⟩ := hrel
        by_cases hlt : j < k
        · have hltz : (j : Int) < (k : Int) := by omega
          have hk1 : k - 1 < d.size := by omega
          obtain ⟨iN, hiN⟩ : ∃ q, q = k := ⟨_, rfl⟩
          obtain ⟨jN, hjN⟩ : ∃ q, q = k - 1 := ⟨_, rfl⟩
          have ea : ((k : Int)).toNat = iN := by omega
          have pa : (0 : Int) ≤ (k : Int) := by omega
          have ba : (k : Int) < (d.size : Int) := by omega
          have eb : ((k : Int) - 1).toNat = jN := by omega
          have pb : (0 : Int) ≤ (k : Int) - 1 := by omega
          have bb : (k : Int) - 1 < (d.size : Int) := by omega
          have rb : IntKind.i64.wrap ((k : Int) - 1) = (k : Int) - 1 := by rw [IntKind.wrap_i64]; omega
          obtain ⟨x, hx⟩ : ∃ x, x = dk[iN]! := ⟨_, rfl⟩
          obtain ⟨y, hy⟩ : ∃ x, x = dk[jN]! := ⟨_, rfl⟩
          have S3 : Aside (SW enc w0 blk off (swp dk iN jN) ((wr.setCell ⟨blk, off + iN, none⟩ (enc y)).setCell ⟨blk, off + jN, none⟩ (enc x)).drew) := by rw [hx, hy]; exact S1.out.swapped R iN jN (by have := HSd.out; omega) (by omega)
          have ca := S1.out.c1 R (by have := HSd.out; omega) iN (by omega)
          have cb := S1.out.c1 R (by have := HSd.out; omega) jN (by omega)
          have fa := S1.out.f1 R (by have := HSd.out; omega) iN (by omega)
          have fb := S1.out.f1 R (by have := HSd.out; omega) jN (by omega)
          obtain ⟨u, cc⟩ := S1.out.c2 R (by have := HSd.out; omega) iN jN (by omega) (by omega) (enc y)
          rw [← hx] at ca
          rw [← hy] at cb
          have HE2 : Sd (∀ p, (swp dk iN jN)[p]! = d[rotAt (k - 1) m (m + 1) p]!) := by
            rw [hiN, hjN]; exact ⟨fun p => rot_down hlt hkj HMD.out hsk HE.out p⟩
          have HP2 : Sd (PermIn a b d (swp dk iN jN)) := ⟨permIn_trans _ _ _ _ _ HP.out (swp_permIn dk a b iN jN (by omega) (by have := HM.out; omega) (by omega) (by have := HM.out; omega) (by have := HM.out; omega))⟩
          have hsk2 : (swp dk iN jN).size = d.size := by rw [size_swp]; exact hsk
          clear S1 hx hy hiN hjN HE HP
          go_wp2_with fail
          go_big_region_o
          generalize ((wr.setCell ⟨blk, off + iN, none⟩ (enc y)).setCell ⟨blk, off + jN, none⟩ (enc x)).drew = w3 at S3 ⊢
          clear ca cb cc fa fb ea eb
          go_wp2
          go_roundw
          case rel => exact ⟨k - 1, swp dk iN jN, by omega, by omega, by go_num, hsk2, S3, HE2, HP2⟩
          case measure => simp [intOf]; omega
        · have hkj2 : k = j := by omega
          have hltz : ¬ (j : Int) < (k : Int) := by omega
          go_wp2
          refine bodyPost_ret (results_none rfl _ _ _) rfl ?_
          rw [hkj2] at HE
          exact ⟨rfl, dk, S1.out, hsk, HP.out, by rw [HM.out]; exact single_right HSW.out (by omega) (by omega) H1.out HT.out HF.out HE.out⟩

end Go.Proofs.Ytpkhdljlhdomlaa.QSort
