/- WordSets: the word of some bits, its lowest bit, and whether one of some is true, are what the reference says, for every list of numbers, word and list of truths; no condition. -/
import Derived.Test.YtidcjbloidbpdaaPArrx5
import Derived.Test.YtidcjbloidbpdaaS1
import Derived.Test.YtidcjbloidbpdaaOpArr
namespace Go.Proofs.Ytidcjbloidbpdaa.PureWordSets
open Go.RowKit Go.Proofs.Ytidcjbloidbpdaa.PArr Go.Proofs.YtidcjbloidbpdaaW.PrintWords Go.Proofs.YtidcjbloidbpdaaW.PrintLast
open Go.Proofs.Ytidcjbloidbpdaa.Vw Go.Proofs.Ytidcjbloidbpdaa.Pure Go.Proofs.Ytidcjbloidbpdaa.OpArr
set_option linter.unusedVariables false
set_option linter.unusedSimpArgs false

theorem awake_is : vireolaw01_awake.f 600 = some true := by decide +kernel
theorem sets_l2 (xs : List Int) (hx : xs.length ≤ 100) (w : Nat) (hw : w < 18446744073709551616) (ms : List Bool) (hm : ms.length ≤ 100) (d : Nat) : ∀ (k i : Nat), i + d = ms.length → d + 120 ≤ k →
    vireolaw01_WordSets.l2 k xs (w : Int) ms (bl (named xs xs.length) 64) (lowFrom w 64) ((ms.take i).any id) (i : Int) = some true := by
  induction d with
  | zero =>
    intro k i hi hk
    obtain ⟨k, rfl⟩ : ∃ m, k = m + 1 := ⟨k - 1, by omega⟩
    obtain rfl : i = ms.length := by omega
    simp only [vireolaw01_WordSets.l2]
    rw [if_neg (by omega), word_Bits_is xs hx k (by omega), Option.bind_some, vireoref01_Word_is _ 64 (by omega) k (by omega), Option.bind_some, if_pos rfl, word_Lowest_is w hw k (by omega), Option.bind_some, if_pos rfl, word_Any_is ms hm k (by omega), Option.bind_some, List.take_length, beq_self_eq_true]
  | succ d ih =>
    intro k i hi hk
    obtain ⟨k, rfl⟩ : ∃ m, k = m + 1 := ⟨k - 1, by omega⟩
    have hn := ih k (i + 1) (by omega) (by omega)
    have hi2 : i < ms.length := by omega
    have q3 : wrap64 ((i : Int) + 1) = ((i + 1 : Nat) : Int) := w64_nat (i + 1) (by omega)
    have e : (ms.take (i + 1)).any id = ((ms.take i).any id || ms[i]) := by
      rw [List.take_succ_eq_append_getElem hi2, List.any_append]; simp
    rw [e] at hn
    simp only [vireolaw01_WordSets.l2]
    rw [if_pos (by omega), q3, rdB_at ms i hi2]
    cases hc : (ms.take i).any id
    · rw [hc, Bool.false_or] at hn
      rw [if_neg (by decide), if_pos (by omega)]
      exact hn
    · rw [hc, Bool.true_or] at hn
      rw [if_pos rfl]
      exact hn
theorem sets_l1 (xs : List Int) (hx : xs.length ≤ 100) (w : Nat) (hw : w < 18446744073709551616) (ms : List Bool) (hm : ms.length ≤ 100) (j : Nat) : ∀ (k d : Nat), j + d = 64 → j + 230 ≤ k →
    vireolaw01_WordSets.l1 k xs (w : Int) ms (bl (named xs xs.length) 64) (lowFrom w d) (bl w.testBit 64) ((j : Int) - 1) = some true := by
  induction j with
  | zero =>
    intro k d hd hk
    obtain ⟨k, rfl⟩ : ∃ m, k = m + 1 := ⟨k - 1, by omega⟩
    obtain rfl : d = 64 := by omega
    simp only [vireolaw01_WordSets.l1]
    rw [if_neg (by omega)]
    have h := sets_l2 xs hx w hw ms hm ms.length k 0 (by omega) (by omega)
    exact h
  | succ j ih =>
    intro k d hd hk
    obtain ⟨k, rfl⟩ : ∃ m, k = m + 1 := ⟨k - 1, by omega⟩
    have hn := ih k (d + 1) (by omega) (by omega)
    have ej : (((j + 1 : Nat) : Int) - 1) = (j : Int) := by omega
    have e2 : wrap64 ((j : Int) - 1) = (j : Int) - 1 := w64_id _ (by omega) (by omega)
    have e3 : 63 - d = j := by omega
    rw [lowFrom_succ, e3] at hn
    simp only [vireolaw01_WordSets.l1]
    rw [ej, if_pos (by omega), if_pos (by omega), if_pos (by rw [bl_length]; omega), rd_bl _ 64 j (by omega), e2]
    by_cases c : w.testBit j = true
    · rw [if_pos c] at hn
      rw [if_pos ((bi_eq_one _).mpr c)]
      exact hn
    · rw [if_neg c] at hn
      rw [if_neg (fun h => c ((bi_eq_one _).mp h))]
      exact hn
theorem sets_l0 (xs : List Int) (hx : xs.length ≤ 100) (w : Nat) (hw : w < 18446744073709551616) (ms : List Bool) (hm : ms.length ≤ 100) (d : Nat) : ∀ (k i : Nat), i + d = xs.length → d + 300 ≤ k →
    vireolaw01_WordSets.l0 k xs (w : Int) ms (bl (named xs i) 64) (i : Int) = some true := by
  induction d with
  | zero =>
    intro k i hi hk
    obtain ⟨k, rfl⟩ : ∃ m, k = m + 1 := ⟨k - 1, by omega⟩
    obtain rfl : i = xs.length := by omega
    simp only [vireolaw01_WordSets.l0]
    rw [if_neg (by omega), vireoref01_Bits_is w hw k (by omega), Option.bind_some]
    have h := sets_l1 xs hx w hw ms hm 64 k 0 (by omega) (by omega)
    rw [lowFrom_zero] at h
    exact h
  | succ d ih =>
    intro k i hi hk
    obtain ⟨k, rfl⟩ : ∃ m, k = m + 1 := ⟨k - 1, by omega⟩
    have hn := ih k (i + 1) (by omega) (by omega)
    have hi2 : i < xs.length := by omega
    have q3 : wrap64 ((i : Int) + 1) = ((i + 1 : Nat) : Int) := w64_nat (i + 1) (by omega)
    simp only [vireolaw01_WordSets.l0]
    rw [if_pos (by omega), if_pos (by omega), q3, rd_at xs i hi2]
    have same : ¬ (0 ≤ xs[i] ∧ xs[i] < 64) → bl (named xs (i + 1)) 64 = bl (named xs i) 64 := by
      intro h
      apply bl_congr
      intro j hj
      rw [named_next xs i j hi2, beq_eq_false_iff_ne.mpr (by omega), Bool.or_false]
    by_cases c1 : xs[i] ≥ 0
    · rw [if_pos c1]
      by_cases c2 : xs[i] < 64
      · rw [if_pos c2, if_pos c1, if_pos (by rw [bl_length]; omega)]
        obtain ⟨n, hn2⟩ := Int.eq_ofNat_of_zero_le (a := xs[i]) c1
        rw [hn2, Int.toNat_natCast, show (bl (named xs i) 64).set n 1 = bl (fun j => if j = n then true else named xs i j) 64 from bl_set _ 64 n true]
        have e : bl (fun j => if j = n then true else named xs i j) 64 = bl (named xs (i + 1)) 64 := by
          apply bl_congr
          intro j hj
          rw [named_next xs i j hi2, hn2]
          by_cases c : j = n
          · subst c; simp
          · rw [if_neg c, beq_eq_false_iff_ne.mpr (by omega), Bool.or_false]
        rw [e]
        exact hn
      · rw [if_neg c2, ← same (by omega)]
        exact hn
    · rw [if_neg c1, ← same (by omega)]
      exact hn
theorem sets_f (xs : List Int) (w : Nat) (hw : w < 18446744073709551616) (ms : List Bool) (k : Nat) (hk : 500 ≤ k) (hwk : vireolaw01_awake.f k = some true) : vireolaw01_WordSets.f k xs (w : Int) ms = some true := by
  unfold vireolaw01_WordSets.f
  rw [hwk, Option.bind_some, if_pos rfl]
  clear hwk
  obtain ⟨k, rfl⟩ : ∃ m, k = m + 1 := ⟨k - 1, by omega⟩
  by_cases c1 : (xs.length : Int) > 100
  · rw [if_pos c1]; simp only [vireolaw01_WordSets.j0, if_true]
  rw [if_neg c1]
  by_cases c2 : (ms.length : Int) > 100
  · rw [decide_eq_true c2]; simp only [vireolaw01_WordSets.j0, if_true]
  rw [decide_eq_false c2]
  simp only [vireolaw01_WordSets.j0]
  have h0 := vireoref01_Bits_is 0 (by decide) k (by omega)
  rw [show ((0 : Nat) : Int) = 0 from rfl] at h0
  rw [if_neg (show ¬ (false = true) by decide), h0, Option.bind_some]
  have h := sets_l0 xs (by omega) w hw ms (by omega) xs.length k 0 (by omega) (by omega)
  have e : bl (named xs 0) 64 = bl (0 : Nat).testBit 64 := bl_congr fun i hi => by rw [Nat.zero_testBit]; rfl
  rw [e, show ((0 : Nat) : Int) = 0 from rfl] at h
  exact h
theorem WordSets : vireolaw01_WordSets.Pure2 := by
  intro xs w ms g0 g1 g2
  obtain ⟨w, rfl, hw⟩ := u64_of_wf g1
  exact ⟨600, sets_f xs w hw ms 600 (by omega) awake_is⟩
end Go.Proofs.Ytidcjbloidbpdaa.PureWordSets
namespace Go.Proofs.Ytidcjbloidbpdaa.Pure
theorem WordSets : OpArr.vireolaw01_WordSets.Pure2 := PureWordSets.WordSets
end Go.Proofs.Ytidcjbloidbpdaa.Pure
