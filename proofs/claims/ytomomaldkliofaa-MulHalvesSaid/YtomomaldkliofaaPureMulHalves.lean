/- MulHalves: what reckons with low halves hangs on these alone, and tells a number of 32 bits, for every two words and every other high half; no condition. -/
import Derived.Test.YtomomaldkliofaaPAllx5
import Derived.Test.YtomomaldkliofaaS0
namespace Go.Proofs.Ytomomaldkliofaa.PureMulHalves
open Go.RowKit Go.Proofs.Ytomomaldkliofaa.PAll Go.Proofs.YtomomaldkliofaaW.PrintWords Go.Proofs.YtomomaldkliofaaW.PrintLast
open Go.Proofs.Ytomomaldkliofaa.Vw Go.Proofs.Ytomomaldkliofaa.Pure
set_option linter.unusedVariables false
set_option linter.unusedSimpArgs false

theorem awake_is : vireolaw06_awake.f 405 = some true := by decide +kernel
theorem low_xor (a c : Nat) (hc : c % 4294967296 = 0) : (a ^^^ c) % 4294967296 = a % 4294967296 := by
  apply Nat.eq_of_testBit_eq
  intro i
  rw [show (4294967296 : Nat) = 2 ^ 32 from rfl] at *
  rw [Nat.testBit_mod_two_pow, Nat.testBit_mod_two_pow, Nat.testBit_xor]
  by_cases h : i < 32
  · have : c.testBit i = false := by
      have h2 := Nat.testBit_mod_two_pow c 32 i
      rw [hc] at h2
      simp [h] at h2
      exact h2
    simp [this]
  · simp [h]
theorem half_low (a b a' b' : Nat) (ha : a < 18446744073709551616) (hb : b < 18446744073709551616) (ha' : a' < 18446744073709551616) (hb' : b' < 18446744073709551616) (h1 : a' % 4294967296 = a % 4294967296) (h2 : b' % 4294967296 = b % 4294967296)
    (m : Nat) (hm : 150 ≤ m) (op : Int) (hop : op = 68 ∨ op = 69 ∨ op = 70 ∨ op = 71 ∨ op = 72) : mul_Do.f (m + 5) op (a : Int) (b : Int) = mul_Do.f (m + 5) op (a' : Int) (b' : Int) := by
  have s1 : sextW a' 32 = sextW a 32 := sext32_low h1
  have s2 : sextW b' 32 = sextW b 32 := sext32_low h2
  rcases hop with rfl | hop | rfl | hop | rfl
  · obtain ⟨x, _, e1, _, rfl⟩ := Do_68 a b ha hb m hm
    obtain ⟨y, _, e2, _, rfl⟩ := Do_68 a' b' ha' hb' m hm
    rw [e1, e2, sext32_low (x := a * b) (y := a' * b')]
    rw [Nat.mul_mod, Nat.mul_mod a' b', h1, h2]
  · rw [left_s a b ha hb m op (.inl hop), left_s a' b' ha' hb' m op (.inl hop), s1, s2]
  · rw [left_u a b m 70 (.inl rfl), left_u a' b' m 70 (.inl rfl), h1, h2]
  · rw [left_s a b ha hb m op (.inr hop), left_s a' b' ha' hb' m op (.inr hop), s1, s2]
  · rw [left_u a b m 72 (.inr rfl), left_u a' b' m 72 (.inr rfl), h1, h2]
theorem halves_l (a b c : Nat) (ha : a < 18446744073709551616) (hb : b < 18446744073709551616) (hc : c < 18446744073709551616) (d : Nat) : ∀ (k i : Nat), i + d = 5 → d + 160 ≤ k → vireolaw06_MulHalves.l0 k (a : Int) (b : Int) (c : Int) [68, 69, 70, 71, 72] (i : Int) = some true := by
  induction d with
  | zero =>
    intro k i hi hk
    obtain ⟨k, rfl⟩ : ∃ m, k = m + 1 := ⟨k - 1, by omega⟩
    obtain rfl : i = 5 := by omega
    simp only [vireolaw06_MulHalves.l0]
    rw [if_neg (by decide)]
  | succ d ih =>
    intro k i hi hk
    obtain ⟨k, rfl⟩ : ∃ m, k = m + 1 := ⟨k - 1, by omega⟩
    simp only [vireolaw06_MulHalves.l0]
    obtain ⟨k, rfl⟩ : ∃ m, k = m + 5 := ⟨k - 5, by omega⟩
    have q1 : i + 1 + d = 5 := by omega
    have q2 : d + 160 ≤ k + 5 := by omega
    have q3 : wrap64 ((i : Int) + 1) = ((i + 1 : Nat) : Int) := w64_nat (i + 1) (by omega)
    rw [if_pos (show (i : Int) < (([68, 69, 70, 71, 72] : List Int).length : Int) by simp; omega), if_pos (by omega)]
    have hop : rd [68, 69, 70, 71, 72] (i : Int) = 68 ∨ rd [68, 69, 70, 71, 72] (i : Int) = 69 ∨ rd [68, 69, 70, 71, 72] (i : Int) = 70 ∨ rd [68, 69, 70, 71, 72] (i : Int) = 71 ∨ rd [68, 69, 70, 71, 72] (i : Int) = 72 := by
      have : i = 0 ∨ i = 1 ∨ i = 2 ∨ i = 3 ∨ i = 4 := by omega
      rcases this with rfl | rfl | rfl | rfl | rfl <;> decide
    generalize rd [68, 69, 70, 71, 72] (i : Int) = op at *
    have e1 : IntKind.u64.wrap ((c : Int) * 4294967296) = ((c * 4294967296 % 18446744073709551616 : Nat) : Int) := by rw [IntKind.wrap_u64]; simp
    have e2 : IntKind.u64.wrap ((c : Int) / 4294967296 * 4294967296) = ((c / 4294967296 * 4294967296 : Nat) : Int) := by rw [IntKind.wrap_u64]; omega
    rw [e1, e2, xor_nat _ _ ha (by omega), xor_nat _ _ hb (by omega)]
    have hl := half_low a b (a ^^^ (c * 4294967296 % 18446744073709551616)) (b ^^^ (c / 4294967296 * 4294967296)) ha hb (xor_lt ha (by omega)) (xor_lt hb (by omega)) (low_xor a _ (by omega)) (low_xor b _ (by omega)) k (by omega) op hop
    obtain ⟨y, h1, _⟩ := Do_half a b ha hb k (by omega) op hop
    rw [← hl, h1, Option.bind_some, Option.bind_some, if_pos rfl, if_pos rfl, if_pos rfl, vireoref01_Sext_is _ (sext32_lt y) 32 _ (by omega), Option.bind_some, sext32_twice, if_pos rfl]
    rw [q3]
    exact ih (k + 5) (i + 1) q1 q2
theorem halves_f (a b c : Nat) (ha : a < 18446744073709551616) (hb : b < 18446744073709551616) (hc : c < 18446744073709551616) (k : Nat) (hk : 170 ≤ k) (hw : vireolaw06_awake.f k = some true) : vireolaw06_MulHalves.f k (a : Int) (b : Int) (c : Int) = some true := by
  unfold vireolaw06_MulHalves.f
  rw [hw, Option.bind_some, if_pos rfl]
  have h := halves_l a b c ha hb hc 5 k 0 (by omega) (by omega)
  rw [show ((0 : Nat) : Int) = 0 from rfl] at h
  exact h
theorem MulHalves : vireolaw06_MulHalves.Pure := by
  intro a0 a1 a2 h0 h1 h2
  obtain ⟨a, rfl, ha⟩ := u64_of_wf h0
  obtain ⟨b, rfl, hb⟩ := u64_of_wf h1
  obtain ⟨c, rfl, hc⟩ := u64_of_wf h2
  exact ⟨405, halves_f a b c ha hb hc 405 (by omega) awake_is⟩
end Go.Proofs.Ytomomaldkliofaa.PureMulHalves
namespace Go.Proofs.Ytomomaldkliofaa.Pure
theorem MulHalves : PAll.vireolaw06_MulHalves.Pure := PureMulHalves.MulHalves
end Go.Proofs.Ytomomaldkliofaa.Pure
