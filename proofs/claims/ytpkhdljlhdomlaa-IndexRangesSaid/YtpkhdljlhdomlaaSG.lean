import Derived.Test.YtpkhdljlhdomlaaSA
import Derived.Test.YtpkhdljlhdomlaaSB
import Derived.Test.YtpkhdljlhdomlaaSE
import Derived.Test.YtpkhdljlhdomlaaSC
import Derived.Test.YtpkhdljlhdomlaaSD
import Derived.Test.YtpkhdljlhdomlaaSF
/- The stable sort of slices: walks by hand; the conditions stand in each theorem. -/
namespace Go.Proofs.Ytpkhdljlhdomlaa.QSort
open Go.Shelf Go.RowKit Go.Lib Go.Sort Go.Proofs
set_option linter.unusedVariables false
set_option linter.unusedSimpArgs false
set_option linter.unusedSectionVars false
variable {α : Type} [Inhabited α]
theorem so_sym (enc : α → Value) (cf : α → α → Int) (g : Nat) (cb : Array Value) (blk off cap : Nat) (d0 : Array α) (w0 : World) (lts : α → α → Bool) (Ok : α → α → Prop)
    (eg : ∀ args w, (callFunc g args).run Try.prog w = .ok (.enter g args) w) (h0 : Sd (w0.drawn = 0)) (hcmp : CmpB Try.prog g cb enc cf blk off d0.size w0) (R : Row1 enc w0 blk off d0) (hsz : d0.size < 4611686018427387904)
    (hS : SWO lts) (hag : ∀ x y, Ok x y → ltOf cf y x = lts y x) : ∀ k, SymIH 34 Try.prog enc g cb blk off cap w0 d0.size k lts Ok := by
  intro k
  induction k with
  | zero => intro a m b d w h; omega
  | succ k ih =>
    intro a m b d w hk hds S ham hmb hb h1 h2 hok
    have key : Calls Try.prog 34 #[.slice (some ⟨blk, off, none⟩) d.size cap, .int .i64 a, .int .i64 m, .int .i64 b, .func (.func g) #[] cb] w fun e w' => e = .returned (.tuple #[]) ∧ ∃ d', SW enc w0 blk off d' w' ∧ d'.size = d.size ∧ PermIn a b d d' ∧ SortedIn lts a b d' := by
      by_cases c1 : m = a + 1
      · exact so_sym_left enc cf g cb blk off cap a m b d0 d w0 w lts Ok eg h0 hcmp R hds S (by omega) hS hag c1 hmb (by omega) h2 hok
      · by_cases c2 : b = m + 1
        · exact so_sym_right enc cf g cb blk off cap a m b d0 d w0 w lts Ok eg h0 hcmp R hds S (by omega) hS hag (by omega) c2 (by omega) h1 hok
        · refine so_sym_gen enc cf g cb blk off cap a m b d0 d w0 w lts Ok eg h0 hcmp R hds S (by omega) hS hag (by omega) (by omega) (by omega) h1 h2 hok ?_ ((a + b) / 2) ((a + b) / 2 + m - 1) (if (a + b) / 2 < m then (a + b) / 2 + m - b else a) (if (a + b) / 2 < m then (a + b) / 2 else m) rfl rfl ?_
          · intro a' m' b' d' w' hk' hds' S' ham' hmb' hb' h1' h2' hok'
            rw [hds] at hds' hb' ⊢
            exact ih a' m' b' d' w' (by omega) hds' S' ham' hmb' hb' h1' h2' hok'
          · by_cases c3 : (a + b) / 2 < m
            · rw [if_pos c3, if_pos c3]
              exact .inl ⟨c3, by omega, rfl⟩
            · rw [if_neg c3, if_neg c3]
              exact .inr ⟨c3, rfl, rfl⟩
    rw [hds] at key
    exact key
set_option maxHeartbeats 16000000 in
set_option maxRecDepth 1000000 in
theorem so_stable (enc : α → Value) (cf : α → α → Int) (g : Nat) (cb : Array Value) (blk off cap n : Nat) (d0 d : Array α) (w0 w : World) (lts : α → α → Bool) (Ok : α → α → Prop)
    (eg : ∀ args w, (callFunc g args).run Try.prog w = .ok (.enter g args) w) (h0 : Sd (w0.drawn = 0)) (hcmp : CmpB Try.prog g cb enc cf blk off d0.size w0) (R : Row1 enc w0 blk off d0) (hs : d.size = d0.size) (S : SW enc w0 blk off d w) (hsz : n < 1152921504606846976)
    (hS : SWO lts) (hag : ∀ x y, Ok x y → ltOf cf y x = lts y x) (hn : d.size = n) (hok : ∀ p q, p < q → q < n → Ok d[p]! d[q]!) :
    Calls Try.prog 32 #[.slice (some ⟨blk, off, none⟩) n cap, .int .i64 n, .func (.func g) #[] cb] w fun e w' => e = .returned (.tuple #[]) ∧ ∃ d', SW enc w0 blk off d' w' ∧ d'.size = n ∧ PermIn 0 n d d' ∧ SortedIn lts 0 n d' := by
  have HC := Sd.mk hcmp
  have HSd := Sd.mk (And.intro hs hn)
  have HSW := Sd.mk hS
  have HAG := Sd.mk hag
  have HG0 := Sd.mk (good_start (lts := lts) hok)
  have S0 : Aside (SW enc w0 blk off d w) := S
  have HI : Sd (∀ (a b : Nat) (dk : Array α) (wr : World), dk.size = n → SW enc w0 blk off dk wr → a ≤ b → b ≤ n → Calls Try.prog 33 #[.slice (some ⟨blk, off, none⟩) n cap, .int .i64 a, .int .i64 b, .func (.func g) #[] cb] wr fun e w' => e = .returned (.tuple #[]) ∧ SW enc w0 blk off (Sort.insertionSort (ltOf cf) dk a b) w') := ⟨fun a b dk wr h1 h2 h3 h4 => by
    have := so_insert enc cf g cb blk off cap a b d0 dk w0 wr eg h0 HC.out R (by have := HSd.out; omega) h2 h3 (by omega) (by omega)
    rw [h1] at this
    exact this⟩
  have HY : Sd (∀ k, SymIH 34 Try.prog enc g cb blk off cap w0 n k lts Ok) := ⟨by
    have := so_sym enc cf g cb blk off cap d0 w0 lts Ok eg h0 hcmp R (by omega) hS hag
    rw [← hs, hn] at this
    exact this⟩
  have HB : Sd (∀ (a b : Nat) (dk : Array α) (Bd : Nat → Prop), dk.size = n → a ≤ b → b ≤ n → (∀ B, a ≤ B → Bd B) → Good lts Ok n Bd dk → PermIn a b dk (Sort.insertionSort (ltOf cf) dk a b) ∧ SortedIn lts a b (Sort.insertionSort (ltOf cf) dk a b)) := ⟨fun a b dk Bd h1 h2 h3 h4 G =>
    ins_block HSW.out HAG.out dk a b h2 (by omega) (fun p q h5 h6 h7 => G.1 q (by omega) (by omega) (h4 q (by omega)) p q (Nat.zero_le _) h6 (Nat.le_refl _) (by omega))⟩
  clear S hcmp hs hS hag hok hn
  go_enter Try.func32, Try.ntmps32
  go_wp2
  go_loopw [7, 8] (fun s7 s8 wr => ∃ (a : Nat) (dk : Array α), a ≤ n ∧ a % 20 = 0 ∧ s7 = .int .i64 a ∧ s8 = .int .i64 ((a + 20 : Nat) : Int) ∧ Sd (dk.size = n) ∧ Aside (SW enc w0 blk off dk wr) ∧ Sd (PermIn 0 n d dk) ∧ Sd (Good lts Ok n (fun B => a ≤ B ∨ B % 20 = 0) dk)) (fun a _ _ => n - (intOf a).toNat)
  case atStart => exact ⟨0, d, Nat.zero_le _, rfl, rfl, rfl, ⟨HSd.out.2⟩, S0, ⟨permIn_refl d 0 n⟩, HG0⟩
  case round =>
    clear S0 HG0
    obtain ⟨a, dk, han, ham, rfl, rfl, hsk, S1, HP, HG⟩ := hrel
    have HM := Sd.mk ham
    clear ham
    by_cases hlt : a + 20 ≤ n
    · have hltz : (a : Int) + 20 ≤ (n : Int) := by omega
      obtain ⟨b, hb⟩ : ∃ q, q = a + 20 := ⟨_, rfl⟩
      rw [← hb]
      have hbn : (b : Int) ≤ (n : Int) := by omega
      have hab : a ≤ b := by omega
      have HBB := Sd.mk hb
      clear hb hltz hlt
      have hC := Sd.mk (HI.out a b dk wr hsk.out S1.out hab (by omega))
      clear S1
      go_wp2_with (go_at_call 33; refine hC.out.mono ?_; rintro e w1 ⟨rfl, h1⟩; have S1 : Aside _ := h1; clear h1 hC)
      go_roundw
      case rel =>
        obtain ⟨q1, q2⟩ := HB.out a b dk _ hsk.out hab (by omega) (fun B h => .inl h) HG.out
        have hb := HBB.out
        have hm := HM.out
        have hz := hsk.out
        refine ⟨b, _, by omega, by omega, rfl, by go_num, ⟨by rw [q1.1]; exact hz⟩, S1, ⟨permIn_trans _ _ _ _ _ HP.out (permIn_mono _ _ a b 0 n (Nat.zero_le _) (by omega) (by omega) q1)⟩, ⟨good_iff (good_step HG.out (by omega) hab (by omega) (.inr (.inl (Nat.le_refl _))) (.inr (.inl (by omega))) q1 q2) (fun B h1 h2 => by omega)⟩⟩
      case measure => simp [intOf]; have hb := HBB.out; omega
    · have hltz : ¬ (a : Int) + 20 ≤ (n : Int) := by omega
      have hC := Sd.mk (HI.out a n dk wr hsk.out S1.out han (Nat.le_refl _))
      clear S1
      go_wp2_with (go_at_call 33; refine hC.out.mono ?_; rintro e w1 ⟨rfl, h1⟩; have S0 : Aside _ := h1; clear h1 hC)
      obtain ⟨d1, hd1⟩ : ∃ d1, Sort.insertionSort (ltOf cf) dk a n = d1 := ⟨_, rfl⟩
      have HH : Sd (d1.size = n ∧ PermIn 0 n d d1 ∧ Good lts Ok n (Bnd 20 0) d1) := ⟨by
        obtain ⟨q1, q2⟩ := HB.out a n dk _ hsk.out han (Nat.le_refl _) (fun B h => .inl h) HG.out
        have hm := HM.out
        have hz := hsk.out
        rw [hd1] at q1 q2
        refine ⟨by rw [q1.1]; exact hz, permIn_trans _ _ _ _ _ HP.out (permIn_mono _ _ a n 0 n (Nat.zero_le _) (Nat.le_refl _) (by omega) q1), good_iff (good_step HG.out (by omega) han (Nat.le_refl _) (.inr (.inl (Nat.le_refl _))) (.inl rfl) q1 q2) (fun B h1 h2 => ?_)⟩
        rw [← bnd_20]
        omega⟩
      rw [hd1] at S0
      clear hd1 HG HP HM hsk
      go_loopw [6] (fun s6 wr => ∃ (s : Nat) (dk : Array α), 0 < s ∧ s ≤ 2 * n + 20 ∧ s6 = .int .i64 s ∧ Sd (dk.size = n) ∧ Aside (SW enc w0 blk off dk wr) ∧ Sd (PermIn 0 n d dk) ∧ Sd (Good lts Ok n (Bnd s 0) dk)) (fun s _ => n - (intOf s).toNat)
      case atStart => exact ⟨20, d1, by omega, by omega, rfl, ⟨HH.out.1⟩, S0, ⟨HH.out.2.1⟩, ⟨HH.out.2.2⟩⟩
      case round =>
        clear S0 HH hltz hlt han
        obtain ⟨s, dk, hs0, hsn, rfl, hsk, S0, HP, HG⟩ := hrel
        by_cases hlt : s < n
        · have hG0 := HG
          have hP0 := HP
          have hk0 := hsk
          clear HG HP hsk
          go_wp2
          go_loopw [7, 8] (fun s7 s8 wr => ∃ (a b : Nat) (dk : Array α), a ≤ n ∧ s7 = .int .i64 a ∧ s8 = .int .i64 b ∧ Sd (b = a + 2 * s) ∧ Sd (2 * s ∣ a) ∧ Sd (dk.size = n) ∧ Aside (SW enc w0 blk off dk wr) ∧ Sd (PermIn 0 n d dk) ∧ Sd (Good lts Ok n (Bnd s a) dk)) (fun a _ _ => n - (intOf a).toNat)
          case atStart => exact ⟨0, 2 * s, dk, Nat.zero_le _, rfl, by go_num, ⟨by omega⟩, ⟨Nat.dvd_zero _⟩, hk0, S0, hP0, hG0⟩
          case round =>
            clear S0 hG0 hP0 hk0
            obtain ⟨a, b, dj, han, rfl, rfl, HBE, HDV, hsj, S1, HP, HG⟩ := hrel
            by_cases hbn : b ≤ n
            · obtain ⟨m, hm⟩ : ∃ q, q = a + s := ⟨_, rfl⟩
              have hC0 := HY.out (b - a + 1) a m b dj wr (by omega) hsj.out S1.out (by omega) (by have := HBE.out; omega) hbn
                (by rw [hm]; have := HBE.out; exact HG.out.2 a (a + s) (by omega) (fun B h1 h2 => bnd_one hs0 HDV.out h1 h2))
                (by have := HBE.out; exact HG.out.2 m b hbn (fun B h1 h2 => bnd_two hs0 HDV.out (by omega) (by omega)))
                (by have := HBE.out; exact good_ok HG.out (by omega) (by omega) hbn (by rw [hm]; exact bnd_mid HDV.out))
              rw [show ((m : Nat) : Int) = (a : Int) + (s : Int) by omega] at hC0
              have hC := Sd.mk hC0
              have HMM := Sd.mk hm
              clear hC0 S1 hm
              have hab : a < b := by have := HBE.out; omega
              go_wp2_with (go_at_call 34; refine hC.out.mono ?_; rintro e w1 ⟨rfl, d', h1, h2, h3, h4⟩; have S1 : Aside _ := h1; have H2 := Sd.mk h2; have H3 := Sd.mk h3; have H4 := Sd.mk h4; clear h1 h2 h3 h4 hC)
              go_roundw
              case rel =>
                have hb := HBE.out
                have hz := hsj.out
                refine ⟨b, b + 2 * s, d', hbn, rfl, by go_num, ⟨rfl⟩, ⟨by rw [hb]; exact Nat.dvd_add HDV.out (Nat.dvd_refl _)⟩, H2, S1, ⟨permIn_trans _ _ _ _ _ HP.out (permIn_mono _ _ a b 0 n (Nat.zero_le _) (by omega) (by omega) H3.out)⟩, ⟨good_iff (good_step HG.out (by omega) (by omega) hbn (.inr (bnd_at HDV.out)) (.inr (by rw [hb]; exact bnd_end HDV.out)) H3.out H4.out) (fun B h1 h2 => by rw [hb]; exact bnd_step hs0 HDV.out)⟩⟩
              case measure => simp [intOf]; omega
            · obtain ⟨m, hm⟩ : ∃ q, q = a + s := ⟨_, rfl⟩
              have em : ((m : Nat) : Int) = (a : Int) + (s : Int) := by omega
              by_cases hmn : m < n
              · have hC0 := HY.out (n - a + 1) a m n dj wr (by omega) hsj.out S1.out (by omega) hmn (Nat.le_refl _)
                  (by rw [hm]; exact HG.out.2 a (a + s) (by omega) (fun B h1 h2 => bnd_one hs0 HDV.out h1 h2))
                  (by have := HBE.out; exact HG.out.2 m n (Nat.le_refl _) (fun B h1 h2 => bnd_two hs0 HDV.out (by omega) (by omega)))
                  (good_ok HG.out (by omega) hmn (Nat.le_refl _) (by rw [hm]; exact bnd_mid HDV.out))
                rw [em] at hC0
                have hC := Sd.mk hC0
                have hmz : (a : Int) + (s : Int) < (n : Int) := by omega
                have HMM := Sd.mk hm
                clear hC0 S1 hm em hmn
                go_wp2_with (go_at_call 34; refine hC.out.mono ?_; rintro e w1 ⟨rfl, d', h1, h2, h3, h4⟩; have S1 : Aside _ := h1; have H2 := Sd.mk h2; have H3 := Sd.mk h3; have H4 := Sd.mk h4; clear h1 h2 h3 h4 hC)
                go_roundw
                case rel =>
                  have hb := HBE.out
                  have hz := hsj.out
                  refine ⟨2 * s, d', by omega, by omega, by go_num, H2, S1, ⟨permIn_trans _ _ _ _ _ HP.out (permIn_mono _ _ a n 0 n (Nat.zero_le _) (Nat.le_refl _) (by omega) H3.out)⟩, ⟨good_iff (good_step HG.out (by omega) (by omega) (Nat.le_refl _) (.inr (bnd_at HDV.out)) (.inl rfl) H3.out H4.out) (fun B h1 h2 => bnd_last hs0 HDV.out (by omega) h2)⟩⟩
                case measure => simp [intOf]; omega
              · have hmz : ¬ (a : Int) + (s : Int) < (n : Int) := by omega
                have HMM := Sd.mk hm
                clear hm em hmn
                go_wp2
                go_roundw
                case rel =>
                  have hb := HBE.out
                  exact ⟨2 * s, dj, by omega, by omega, by go_num, hsj, S1, HP, ⟨good_iff HG.out (fun B h1 h2 => bnd_over hs0 HDV.out (by omega) h2)⟩⟩
                case measure => simp [intOf]; omega
        · go_wp2
          go_end0
          exact ⟨rfl, dk, S0.out, hsk.out, HP.out, good_end HG.out (by omega)⟩
theorem so_SortStable (enc : α → Value) (cf : α → α → Int) (g : Nat) (cb : Array Value) (blk off cap n : Nat) (d : Array α) (w0 w : World) (lts : α → α → Bool) (Ok : α → α → Prop)
    (eg : ∀ args w, (callFunc g args).run Try.prog w = .ok (.enter g args) w) (h0 : Sd (w0.drawn = 0)) (hcmp : CmpB Try.prog g cb enc cf blk off d.size w0) (R : Row1 enc w0 blk off d) (S : SW enc w0 blk off d w) (hsz : n < 1152921504606846976)
    (hS : SWO lts) (hag : ∀ x y, Ok x y → ltOf cf y x = lts y x) (hn : d.size = n) (hok : ∀ p q, p < q → q < n → Ok d[p]! d[q]!) :
    Calls Try.prog 25 #[.slice (some ⟨blk, off, none⟩) n cap, .func (.func g) #[] cb] w fun e w' => e = .returned (.tuple #[]) ∧ ∃ d', SW enc w0 blk off d' w' ∧ d'.size = n ∧ PermIn 0 n d d' ∧ SortedIn lts 0 n d' := by
  have HC := Sd.mk (so_stable enc cf g cb blk off cap n d d w0 w lts Ok eg h0 hcmp R rfl S hsz hS hag hn hok)
  clear hcmp hS hag hn hok S
  go_enter Try.func25, Try.ntmps25
  go_wp2_with (go_at_call 32; refine HC.out.mono ?_; rintro e w1 ⟨rfl, h1⟩; have H1 := Sd.mk h1; clear h1 HC)
  go_end0
  exact ⟨rfl, H1.out⟩

end Go.Proofs.Ytpkhdljlhdomlaa.QSort
