import Derived.Test.YtplmfnjijhppaaaQRowSizesx6
import Derived.Lib.Mul64
import Derived.Laws.MathBits
/- RowSizes: the pure statement of the law RowSizes, proved: over the functions that the printer wrote for the Go code. No condition beside the statement's own. -/
namespace Go.Proofs.Ytplmfnjijhppaaa.Pure
open Go.RowKit Go.Proofs.Ytplmfnjijhppaaa.QRowSizes Go.Proofs.YtplmfnjijhppaaaW.PrintWords Go.Proofs.YtplmfnjijhppaaaW.PrintLast Go.Proofs.YtplmfnjijhppaaaW.PrintMore
set_option linter.unusedVariables false

/- BLOCK rowpure: rows' bytes -/
theorem rowEx_ev : Ev (fun k => weathercocklaw02_examples.f k) true := Ev.of weathercocklaw02_examples.mono (k := 40) (by decide +kernel)
theorem strOf_size (l : List Int) : (strOfNums l).size = l.length := by simp [strOfNums, ByteArray.size]
theorem encR_long (l : List (S36)) (h : 100 < l.length) : encR l = ((⟨#[]⟩ : ByteArray), 5) := if_pos h
theorem encR_ok (l : List (S36)) (h : ¬ 100 < l.length) (a : l.all vRs = true) : encR l = (strOfNums (encL l), 0) := by unfold encR; rw [if_neg h, if_pos a]
theorem encR_bad (l : List (S36)) (h : ¬ 100 < l.length) (a : ¬ l.all vRs = true) : encR l = ((⟨#[]⟩ : ByteArray), 1) := by unfold encR; rw [if_neg h, if_neg a]
theorem rd_at (l : List (S36)) (i : Nat) (h : i < l.length) : rd_T36 l (i : Int) = l[i] := by unfold rd_T36; rw [Int.toNat_natCast, List.getD_eq_getElem?_getD, List.getElem?_eq_getElem h]; rfl
theorem empty_list : ((⟨#[]⟩ : ByteArray).toList == ([] : List UInt8)) = true := by decide +kernel

/- BLOCK the law RowSizes -/
theorem sz9 (n : Nat) (h : n < 100000) : wrap64 (wrap64 ((n : Int) + 1) + 8) = ((n + 9 : Nat) : Int) := by unfold wrap64; omega
theorem sz2 (n : Nat) (h : n < 100000) : wrap64 (wrap64 ((n : Int) + 1) + 1) = ((n + 2 : Nat) : Int) := by unfold wrap64; omega
theorem sz3 (n s : Nat) (h : n < 100000) (g : s < 100000) : wrap64 (wrap64 (wrap64 ((n : Int) + 1) + 1) + (s : Int)) = ((n + (1 + (1 + s)) : Nat) : Int) := by unfold wrap64; omega
theorem sz1 (n : Nat) (h : n < 100000) : wrap64 ((n : Int) + 1) = ((n + 1 : Nat) : Int) := by unfold wrap64; omega
theorem sizes_l (l : List (S36)) (s : ByteArray) (hs : s.size = (encL l).length) (a : l.all vRs = true) (hl : l.length ≤ 100) : ∀ m i k : Nat, i + m = l.length → m < k → weathercocklaw02_RowSizes.l0 k l true s (((encL (l.take i)).length : Nat) : Int) (i : Int) = some true := by
  intro m
  induction m with
  | zero =>
    intro i k hi hk
    obtain ⟨k, rfl⟩ : ∃ n, k = n + 1 := ⟨k - 1, by omega⟩
    unfold weathercocklaw02_RowSizes.l0
    rw [if_neg (by omega), if_pos rfl, show l.take i = l by rw [show i = l.length by omega]; exact List.take_length, hs]
    simp
  | succ m ih =>
    intro i k hi hk
    obtain ⟨k, rfl⟩ : ∃ n, k = n + 1 := ⟨k - 1, by omega⟩
    have hlt : i < l.length := by omega
    have hw : wrap64 ((i : Int) + 1) = ((i + 1 : Nat) : Int) := by unfold wrap64; omega
    have hb := encL_len _ (all_take a i)
    rw [List.length_take, Nat.min_eq_left (by omega)] at hb
    have hv : vRs l[i] = true := List.all_eq_true.1 a _ (List.getElem_mem hlt)
    have ht := encL_take l i hlt
    have hn := ih (i + 1) k (by omega) (by omega)
    rw [ht, List.length_append] at hn
    have h3 := vRs_text l[i] hv
    unfold weathercocklaw02_RowSizes.l0
    rw [if_pos (by omega), if_pos (by omega), rd_at l i hlt, hw]
    unfold encV at hn
    have hn0 : (encL (l.take i)).length < 100000 := by omega
    clear ih ht hb
    generalize (encL (l.take i)).length = n at *
    generalize l[i] = v at *
    by_cases c1 : v.f0 = 1
    · rw [if_pos c1] at hn
      rw [if_pos c1, sz9 n hn0]
      simpa [eightL] using hn
    · rw [if_neg c1] at hn
      rw [if_neg c1]
      by_cases c2 : v.f0 = 2
      · rw [if_pos c2] at hn
        rw [if_pos c2, sz2 n hn0]
        simpa using hn
      · rw [if_neg c2] at hn
        rw [if_neg c2]
        by_cases c3 : v.f0 = 3
        · rw [if_pos c3] at hn
          have := h3 c3
          rw [if_pos c3, sz3 n _ hn0 (by omega)]
          rw [List.length_append, List.length_append, bytesOf_length] at hn
          exact hn
        · rw [if_neg c3, List.append_nil] at hn
          rw [if_neg c3, sz1 n hn0]
          exact hn
theorem RowSizes : weathercocklaw02_RowSizes.Pure := by
  rintro l ⟨hl0, hl1, hl2⟩
  obtain ⟨K, h⟩ := rowEx_ev
  refine ⟨K + 200, ?_⟩
  unfold weathercocklaw02_RowSizes.f row_Encode.f
  rw [show weathercocklaw02_examples.f (K + 200) = some true from h _ (by omega), Option.bind_some, Option.bind_some]
  by_cases c : 100 < l.length
  · rw [encR_long l c, if_neg (by decide), if_pos rfl, empty_list]
  · by_cases a : l.all vRs = true
    · rw [encR_ok l c a, if_pos rfl]
      exact sizes_l l _ (strOf_size _) a (by omega) l.length 0 (K + 200) (by omega) (by omega)
    · rw [encR_bad l c a, if_neg (by decide), if_pos rfl, empty_list]

end Go.Proofs.Ytplmfnjijhppaaa.Pure
