import Derived.Test.YtpkhdljlhdomlaaSA
import Derived.Test.YtpkhdljlhdomlaaSB
import Derived.Deep.DeepCutAuto
import Derived.Deep.CutBlock
/- The stable sort of slices: walks by hand; the conditions stand in each theorem. -/
namespace Go.Proofs.Ytpkhdljlhdomlaa.QSort
open Go.Shelf Go.RowKit Go.Lib Go.Sort Go.Proofs
set_option linter.unusedVariables false
set_option linter.unusedSimpArgs false
set_option linter.unusedSectionVars false
variable {α : Type} [Inhabited α]
theorem sym_join {lts : α → α → Bool} {d d1 d2 d3 : Array α} {a mid b : Nat} (ham : a ≤ mid) (hmb : mid ≤ b) (hb : b ≤ d.size) (P1 : PermIn a b d d1) (P2 : PermIn a mid d1 d2) (P3 : PermIn mid b d2 d3) (S2 : SortedIn lts a mid d2) (S3 : SortedIn lts mid b d3) (HA : Apart lts a mid b d1) : PermIn a b d d3 ∧ SortedIn lts a b d3 := by
  have s1 : d1.size = d.size := P1.1
  have s2 : d2.size = d1.size := P2.1
  refine ⟨permIn_trans _ _ _ _ _ (permIn_trans _ _ _ _ _ P1 (permIn_mono d1 d2 a mid a b (Nat.le_refl _) hmb (by omega) P2)) (permIn_mono d2 d3 mid b a b ham (Nat.le_refl _) (by omega) P3), ?_⟩
  exact sorted_join (sorted_congr S2 (fun i h1 h2 => P3.2.1 i (.inl h2))) S3 (apart_perm (by omega) hmb HA P2 P3)
def SymIH (pf : Nat) (P : Program) (enc : α → Value) (g : Nat) (cb : Array Value) (blk off cap : Nat) (w0 : World) (sz k : Nat) (lts : α → α → Bool) (Ok : α → α → Prop) : Prop :=
  ∀ (a m b : Nat) (d : Array α) (w : World), b - a < k → d.size = sz → SW enc w0 blk off d w → a < m → m < b → b ≤ sz → SortedIn lts a m d → SortedIn lts m b d → OkIn Ok a m b d →
    Calls P pf #[.slice (some ⟨blk, off, none⟩) sz cap, .int .i64 a, .int .i64 m, .int .i64 b, .func (.func g) #[] cb] w fun e w' => e = .returned (.tuple #[]) ∧ ∃ d', SW enc w0 blk off d' w' ∧ d'.size = sz ∧ PermIn a b d d' ∧ SortedIn lts a b d'
set_option maxHeartbeats 16000000 in
set_option maxRecDepth 1000000 in
theorem so_sym_gen (enc : α → Value) (cf : α → α → Int) (g : Nat) (cb : Array Value) (blk off cap a m b : Nat) (d0 d : Array α) (w0 w : World) (lts : α → α → Bool) (Ok : α → α → Prop)
    (eg : ∀ args w, (callFunc g args).run Try.prog w = .ok (.enter g args) w) (h0 : Sd (w0.drawn = 0)) (hcmp : CmpB Try.prog g cb enc cf blk off d0.size w0) (R : Row1 enc w0 blk off d0) (hs : d.size = d0.size) (S : SW enc w0 blk off d w) (hsz : d.size < 4611686018427387904)
    (hS : SWO lts) (hag : ∀ x y, Ok x y → ltOf cf y x = lts y x) (hm : a + 1 < m) (hbm : m + 1 < b) (hb : b ≤ d.size) (h1 : SortedIn lts a m d) (h2 : SortedIn lts m b d) (hok : OkIn Ok a m b d) (IH : SymIH 34 Try.prog enc g cb blk off cap w0 d.size (b - a) lts Ok)
    (mid p lo hi : Nat) (hmid : mid = (a + b) / 2) (hp : p = mid + m - 1) (hcase : (mid < m ∧ lo + b = mid + m ∧ hi = mid) ∨ (¬ mid < m ∧ lo = a ∧ hi = m)) :
    Calls Try.prog 34 #[.slice (some ⟨blk, off, none⟩) d.size cap, .int .i64 a, .int .i64 m, .int .i64 b, .func (.func g) #[] cb] w fun e w' => e = .returned (.tuple #[]) ∧ ∃ d', SW enc w0 blk off d' w' ∧ d'.size = d.size ∧ PermIn a b d d' ∧ SortedIn lts a b d' := by
  have mixed : Try.prog.follows Departure.mixedOrders = true := by kernel_rfl
  have hu34 := run_underlying Try.underlying31
  have hcl0 := R.hO.cells
  simp only [Value.cells] at hcl0
  have hst := R.hO.store Try.prog
  have HC := Sd.mk hcmp
  have HSd := Sd.mk hs
  have HSW := Sd.mk hS
  have HAG := Sd.mk hag
  have H1 := Sd.mk h1
  have H2 := Sd.mk h2
  have HOK := Sd.mk hok
  have HIH := Sd.mk IH
  have S0 : Aside (SW enc w0 blk off d w) := S
  have hma : ¬ (m : Int) - (a : Int) = 1 := by omega
  have hq1 : ((m : Int) - (a : Int) == 1) = false := by simp; omega
  have hbz : ¬ (b : Int) - (m : Int) = 1 := by omega
  have hq2 : ((b : Int) - (m : Int) == 1) = false := by simp; omega
  have f1 : a < mid := by omega
  have f2 : mid < b := by omega
  have f3 : a ≤ lo := by omega
  have f4 : hi ≤ m := by omega
  have f5 : hi ≤ mid := by omega
  have f6 : lo ≤ hi := by omega
  have f7 : p - lo < b := by omega
  have f8 : p + 1 = mid + m := by omega
  have f9 : mid + m ≤ lo + b := by omega
  have HMID := Sd.mk hmid
  have HLO : Sd (∀ c, a ≤ c → mid + m - b ≤ c → lo ≤ c) := ⟨fun c h3 h4 => by omega⟩
  have HHI : Sd (∀ c, c < m → c < mid → c < hi) := ⟨fun c h3 h4 => by omega⟩
  have HLO2 : Sd (m > mid → mid + m - b ≤ lo) := ⟨fun h3 => by omega⟩
  have e1 : ((a : Int) + (b : Int)) / 2 = (mid : Int) := by omega
  have e4 : (mid : Int) + (m : Int) - 1 = (p : Int) := by omega
  have E1 := Sd.mk e1
  have E4 := Sd.mk e4
  have HCS := Sd.mk hcase
  clear S hcmp hs hS hag h1 h2 hok IH hmid hcase hp e1 e4
  go_enter Try.func34, Try.ntmps34
  go_upto_if 140 with fail
  rw [E1.out]
  go_cut [20, 21] (fun s20 s21 wx => s20 = .int .i64 lo ∧ s21 = .int .i64 hi ∧ Aside (SW enc w0 blk off d wx))
  case first =>
    as_aux_lemma =>
      rcases HCS.out with ⟨h3, h4, h5⟩ | ⟨h3, h4, h5⟩
      · have h6 : (mid : Int) < (m : Int) := by omega
        have h7 : (mid : Int) + (m : Int) - (b : Int) = (lo : Int) := by omega
        have H5 := Sd.mk h5
        clear h4 h5
        go_wp2_with fail
        go_meet
        exact ⟨by first | rfl | simp [h7], by rw [H5.out], S0⟩
      · have h6 : ¬ (mid : Int) < (m : Int) := by omega
        have H5 := Sd.mk (And.intro h4 h5)
        clear h4 h5
        go_wp2_with fail
        go_meet
        exact ⟨by rw [H5.out.1], by rw [H5.out.2], S0⟩
  case rest =>
  clear S0
  obtain ⟨rfl, rfl, S0⟩ := hcut
  go_wp2
  rw [E4.out]
  go_loopw [20, 21] (fun s20 s21 wr => ∃ s r : Nat, lo ≤ s ∧ s ≤ r ∧ r ≤ hi ∧ s20 = .int .i64 s ∧ s21 = .int .i64 r ∧ Aside (SW enc w0 blk off d wr) ∧ Sd (∀ k, lo ≤ k → k < s → lts d[p - k]! d[k]! = false) ∧ Sd (∀ k, r ≤ k → k < hi → lts d[p - k]! d[k]! = true)) (fun s r _ => (intOf r - intOf s).toNat)
  case atStart => exact ⟨lo, hi, Nat.le_refl _, f6, Nat.le_refl _, rfl, rfl, S0, ⟨fun k h1 h2 => by omega⟩, ⟨fun k h1 h2 => by omega⟩⟩
  case round =>
    clear S0
    obtain ⟨s, r, hls, hsr, hrh, rfl, rfl, S1, HT, HF⟩ := hrel
    by_cases hlt : s < r
    · as_aux_lemma =>
        go_wp2_with fail
        obtain ⟨c, hh⟩ : ∃ c, c = (s + r) / 2 := ⟨_, rfl⟩
        have hh1 : s ≤ c ∧ c < r := by omega
        obtain ⟨iN, hiN⟩ : ∃ q, q = p - c := ⟨_, rfl⟩
        obtain ⟨x, hx⟩ : ∃ x, x = d[iN]! := ⟨_, rfl⟩
        obtain ⟨y, hy⟩ : ∃ y, y = d[c]! := ⟨_, rfl⟩
        have ea : ((p : Int) - (c : Int)).toNat = iN := by omega
        have pa : (0 : Int) ≤ (p : Int) - (c : Int) := by omega
        have pc : (c : Int) ≤ (p : Int) := by omega
        have pd : c ≤ p := by omega
        have ba : (p : Int) - (c : Int) < (d.size : Int) := by omega
        have ra : IntKind.i64.wrap ((p : Int) - (c : Int)) = (p : Int) - (c : Int) := by rw [IntKind.wrap_i64]; omega
        have hcd : c < d.size := by omega
        have la := sw_clB S1.out h0 R (HSd.out) iN (by omega)
        have lb := sw_clB S1.out h0 R (HSd.out) c (by omega)
        rw [← hx] at la
        rw [← hy] at lb
        have hc := sw_cmpB S1.out h0 HC.out HSd.out x y
        have e1 : ((s : Int) + (r : Int)) / 2 = (c : Int) := by omega
        rw [e1]
        clear e1
        have HXY := Sd.mk (And.intro hx hy)
        have HH := Sd.mk (And.intro hh hiN)
        clear hx hy hh hiN
        cases hv : ltOf cf x y with
        | true =>
          have hv1 : cf x y < 0 := of_decide_eq_true hv
          have hd1 : decide (cf x y < 0) = true := decide_eq_true hv1
          have HV := Sd.mk hv
          clear hv
          refine wp_region_quiet_below (by assumption) (by kernel_rfl) ?_
          repeat (quiet_step (first | (go_at_fn g; refine hc _ _)))
          refine wpQuiet_nil ?_
          intro _ hw'
          obtain ⟨⟨nq, osq⟩, hw''⟩ := hw'
          subst hw''
          have S2 : Aside (SW enc w0 blk off d (grow (redrawn wr nq) osq)) := sw_regrown S1.out h0 nq osq
          clear la lb hc S1 ea pa ba ra pc
          generalize grow (redrawn wr nq) osq = w2 at S2 ⊢
          clear nq osq
          go_wp2
          go_roundw
          case rel =>
            have hx := HXY.out.1
            have hy := HXY.out.2
            have hh := HH.out.2
            have h3 : lts d[p - c]! d[c]! = true := by
              rw [← hh, ← HAG.out _ _ (HOK.out c iN (by omega) (by omega) (by omega) (by omega)), ← hx, ← hy]; exact HV.out
            exact ⟨s, c, hls, by omega, by omega, rfl, by go_num, S2, HT, ⟨fun k h4 h5 => sym_true HSW.out H1.out H2.out f4 (by omega) (by omega) (by omega) h3 k h4 h5⟩⟩
          case measure => simp [intOf]; omega
        | false =>
          have hv1 : ¬ cf x y < 0 := of_decide_eq_false hv
          have hd1 : decide (cf x y < 0) = false := decide_eq_false hv1
          have HV := Sd.mk hv
          clear hv
          refine wp_region_quiet_below (by assumption) (by kernel_rfl) ?_
          repeat (quiet_step (first | (go_at_fn g; refine hc _ _)))
          refine wpQuiet_nil ?_
          intro _ hw'
          obtain ⟨⟨nq, osq⟩, hw''⟩ := hw'
          subst hw''
          have S2 : Aside (SW enc w0 blk off d (grow (redrawn wr nq) osq)) := sw_regrown S1.out h0 nq osq
          clear la lb hc S1 ea pa ba ra pc
          generalize grow (redrawn wr nq) osq = w2 at S2 ⊢
          clear nq osq
          go_wp2
          go_roundw
          case rel =>
            have hx := HXY.out.1
            have hy := HXY.out.2
            have hh := HH.out.2
            have h3 : lts d[p - c]! d[c]! = false := by
              rw [← hh, ← HAG.out _ _ (HOK.out c iN (by omega) (by omega) (by omega) (by omega)), ← hx, ← hy]; exact HV.out
            exact ⟨c + 1, r, by omega, by omega, hrh, by go_num, rfl, S2, ⟨fun k h4 h5 => sym_false HSW.out H1.out H2.out f3 (by omega) (by omega) (by omega) h3 k h4 (by omega)⟩, HF⟩
          case measure => simp [intOf]; omega
    · have hrs : r = s := by omega
      subst hrs
      have hsm : r ≤ m := by omega
      have hsd : r ≤ mid := by omega
      obtain ⟨e, he⟩ : ∃ e, e = mid + m - r := ⟨_, rfl⟩
      have g1 : m ≤ e := by omega
      have g2 : e ≤ b := by omega
      have g3 : mid ≤ e := by omega
      have eE : (mid : Int) + (m : Int) - (r : Int) = (e : Int) := by omega
      have HSP : Sd (∀ d1 : Array α, (∀ p, d1[p]! = d[rotAt r m e p]!) → SortedIn lts a r d1 ∧ SortedIn lts r mid d1 ∧ SortedIn lts mid e d1 ∧ SortedIn lts e b d1 ∧ OkIn Ok a r mid d1 ∧ OkIn Ok mid e b d1 ∧ Apart lts a mid b d1) := ⟨fun d1 hd => by
        have q0 := HMID.out
        rw [he] at hd ⊢
        exact split_ok HSW.out (by omega) (by omega) hb HMID.out H1.out H2.out HOK.out (by omega) (fun h3 => Nat.le_trans (HLO2.out h3) hls) (by omega) (by omega)
          (fun c h3 h4 h5 h6 h7 => by have := HT.out c (HLO.out c h3 h4) h5; rw [show p - c = mid + m - 1 - c by omega] at this; exact this)
          (fun c h3 h4 h5 => by have := HF.out c h3 (HHI.out c h4 h5); rw [show p - c = mid + m - 1 - c by omega] at this; exact this) hd⟩
      have g4 : e + r ≤ mid + m := by omega
      have g5 : mid + m ≤ e + r := by omega
      have g6 : a ≤ r := by omega
      have EE := Sd.mk eE
      have S0 := S1
      clear eE he HT HF HLO HHI HLO2 HMID HCS f3 f4 f5 f6 f7 f8 f9 hlt S1 hma hq1 hbz hq2 E1 E4 hls
      go_upto_region 39 with fail
      rw [EE.out]
      clear EE
      go_cut [185] (fun s185 wx => ∃ q : Bool, s185 = .bool q ∧ Sd (q = true ↔ r < m ∧ r < mid) ∧ wx = wr)
      case first =>
        as_aux_lemma =>
          by_cases k1 : r < m
          · have k3 : (r : Int) < (m : Int) := by omega
            by_cases k2 : r < mid
            · have k4 : (m : Int) < (e : Int) := by omega
              have HK : Sd (r < m ∧ r < mid) := ⟨k1, k2⟩
              go_wp2_with fail
              go_meet
              exact ⟨true, rfl, ⟨by simp [HK.out]⟩, rfl⟩
            · have k4 : ¬ (m : Int) < (e : Int) := by omega
              have HK : Sd (¬ (r < m ∧ r < mid)) := ⟨fun h => k2 h.2⟩
              go_wp2_with fail
              go_meet
              exact ⟨false, rfl, ⟨by simp [HK.out]⟩, rfl⟩
          · have k3 : ¬ (r : Int) < (m : Int) := by omega
            have HK : Sd (¬ (r < m ∧ r < mid)) := ⟨fun h => k1 h.1⟩
            go_wp2_with fail
            go_meet
            exact ⟨false, rfl, ⟨by simp [HK.out]⟩, rfl⟩
      case rest =>
      obtain ⟨q, rfl, HQ, rfl⟩ := hcut
      go_upto_if 185 with fail
      go_cut [] (fun wx => ∃ d1 : Array α, d1.size = d.size ∧ Aside (SW enc w0 blk off d1 wx) ∧ Sd (PermIn a b d d1) ∧ Sd (∀ p, d1[p]! = d[rotAt r m e p]!))
      case first =>
        as_aux_lemma =>
          cases q with
          | true =>
            have k1 := (HQ.out.1 rfl).1
            have k2 := (HQ.out.1 rfl).2
            have hC := Sd.mk (so_rotate enc blk off cap r m e d0 d w0 _ (.func (.func g) #[] cb) R HSd.out S0.out hsz k1 (by omega) (by omega))
            clear k1 k2
            go_wp2_with (go_at_call 35; refine hC.out.mono ?_; rintro e1 w5 ⟨rfl, d', h1, h2, h3, h4⟩; have H1 : Aside _ := h1; have H3 := Sd.mk h3; have H4 := Sd.mk h4; clear h1 h3 h4 hC)
            go_meet
            exact ⟨d', h2, H1, ⟨H4.out a b (by omega) (by omega) hb⟩, H3⟩
          | false =>
            have hI : Sd (¬ (r < m ∧ m < e)) := ⟨fun h => by have := HQ.out.2 ⟨h.1, by omega⟩; cases this⟩
            go_wp2_with fail
            go_meet
            exact ⟨d, rfl, S0, ⟨permIn_refl d a b⟩, ⟨fun p => by rw [rot_idle r hI.out (by omega) g1]⟩⟩
      case rest =>
      clear S0 HQ
      obtain ⟨d1, hs1, S1, P1, HD1⟩ := hcut
      obtain ⟨q1, q2, q3, q4, q5, q6, q7⟩ := HSP.out d1 HD1.out
      have Q1 := Sd.mk q1
      have Q2 := Sd.mk q2
      have Q3 := Sd.mk q3
      have Q4 := Sd.mk q4
      have Q5 := Sd.mk q5
      have Q6 := Sd.mk q6
      have Q7 := Sd.mk q7
      clear q1 q2 q3 q4 q5 q6 q7 HD1 HSP q
      go_upto_region 41 with fail
      go_cut [199] (fun s199 wx => ∃ q : Bool, s199 = .bool q ∧ Sd (q = true ↔ a < r ∧ r < mid) ∧ wx = wc)
      case first =>
        as_aux_lemma =>
          by_cases k1 : a < r
          · have k3 : (a : Int) < (r : Int) := by omega
            by_cases k2 : r < mid
            · have k4 : (r : Int) < (mid : Int) := by omega
              have HK : Sd (a < r ∧ r < mid) := ⟨k1, k2⟩
              go_wp2_with fail
              go_meet
              exact ⟨true, rfl, ⟨by simp [HK.out]⟩, rfl⟩
            · have k4 : ¬ (r : Int) < (mid : Int) := by omega
              have HK : Sd (¬ (a < r ∧ r < mid)) := ⟨fun h => k2 h.2⟩
              go_wp2_with fail
              go_meet
              exact ⟨false, rfl, ⟨by simp [HK.out]⟩, rfl⟩
          · have k3 : ¬ (a : Int) < (r : Int) := by omega
            have HK : Sd (¬ (a < r ∧ r < mid)) := ⟨fun h => k1 h.1⟩
            go_wp2_with fail
            go_meet
            exact ⟨false, rfl, ⟨by simp [HK.out]⟩, rfl⟩
      case rest =>
      obtain ⟨q, rfl, HQ, rfl⟩ := hcut
      go_upto_if 199 with fail
      go_cut [] (fun wx => ∃ d2 : Array α, d2.size = d.size ∧ Aside (SW enc w0 blk off d2 wx) ∧ Sd (PermIn a mid d1 d2) ∧ Sd (SortedIn lts a mid d2))
      case first =>
        as_aux_lemma =>
          cases q with
          | true =>
            have k1 := (HQ.out.1 rfl).1
            have k2 := (HQ.out.1 rfl).2
            have hC := Sd.mk (HIH.out a r mid d1 _ (by omega) hs1 S1.out k1 k2 (by omega) Q1.out Q2.out Q5.out)
            clear k1 k2
            go_wp2_with (go_at_call 34; refine hC.out.mono ?_; rintro e1 w5 ⟨rfl, d', h1, h2, h3, h4⟩; have H1 : Aside _ := h1; have H3 := Sd.mk h3; have H4 := Sd.mk h4; clear h1 h3 h4 hC)
            go_meet
            exact ⟨d', h2, H1, H3, H4⟩
          | false =>
            have hS2 : Sd (SortedIn lts a mid d1) := ⟨by
              by_cases k1 : a < r
              · have hr : r = mid := by
                  apply Decidable.byContradiction
                  intro hn
                  have := HQ.out.2 ⟨k1, by omega⟩
                  cases this
                rw [← hr]; exact Q1.out
              · have hr : r = a := by omega
                have := Q2.out
                rw [hr] at this; exact this⟩
            go_wp2_with fail
            go_meet
            exact ⟨d1, hs1, S1, ⟨permIn_refl d1 a mid⟩, hS2⟩
      case rest =>
      clear S1
      obtain ⟨d2, hs2, S2, P2, G2⟩ := hcut
      have Q3' : Sd (SortedIn lts mid e d2) := ⟨sorted_congr Q3.out (fun i h1 h2 => P2.out.2.1 i (.inr h1))⟩
      have Q4' : Sd (SortedIn lts e b d2) := ⟨sorted_congr Q4.out (fun i h1 h2 => P2.out.2.1 i (.inr (by omega)))⟩
      have Q6' : Sd (OkIn Ok mid e b d2) := ⟨ok_perm (by omega) g2 Q6.out a mid (by omega) P2.out⟩
      clear Q1 Q2 Q3 Q4 Q5 Q6
      by_cases k1 : mid < e
      · by_cases k2 : e < b
        · have k3 : (mid : Int) < (e : Int) := by omega
          have k4 : (e : Int) < (b : Int) := by omega
          have hC := Sd.mk (HIH.out mid e b d2 wc (by omega) hs2 S2.out k1 k2 (by omega) Q3'.out Q4'.out Q6'.out)
          clear k1 k2
          go_wp2_with (go_at_call 34; refine hC.out.mono ?_; rintro e1 w5 ⟨rfl, d', h1, h2, h3, h4⟩; have H1 : Aside _ := h1; have H3 := Sd.mk h3; have H4 := Sd.mk h4; clear h1 h3 h4 hC)
          go_end0
          exact ⟨rfl, d', H1.out, h2, sym_join (by omega) (by omega) hb P1.out P2.out H3.out G2.out H4.out Q7.out⟩
        · have k3 : (mid : Int) < (e : Int) := by omega
          have k4 : ¬ (e : Int) < (b : Int) := by omega
          have HR : Sd (e = b) := ⟨by omega⟩
          go_wp2
          go_end0
          exact ⟨rfl, d2, S2.out, hs2, sym_join (by omega) (by omega) hb P1.out P2.out (permIn_refl d2 mid b) G2.out (by have := Q3'.out; rw [HR.out] at this; exact this) Q7.out⟩
      · have k3 : ¬ (mid : Int) < (e : Int) := by omega
        have HR : Sd (e = mid) := ⟨by omega⟩
        go_wp2
        go_end0
        exact ⟨rfl, d2, S2.out, hs2, sym_join (by omega) (by omega) hb P1.out P2.out (permIn_refl d2 mid b) G2.out (by have := Q4'.out; rw [HR.out] at this; exact this) Q7.out⟩

end Go.Proofs.Ytpkhdljlhdomlaa.QSort
