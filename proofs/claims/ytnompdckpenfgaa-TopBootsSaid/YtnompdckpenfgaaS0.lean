import Derived.Test.YtnompdckpenfgaaPAlx1
import Derived.OpenShut
import Derived.Laws.BitsAllLaws
import Derived.Test.YtnompdckpenfgaaVw
namespace Go.Proofs.Ytnompdckpenfgaa.Pure
open Go.RowKit Go.Proofs.Ytnompdckpenfgaa.PAl Go.Proofs.YtnompdckpenfgaaW.PrintWords Go.Proofs.YtnompdckpenfgaaW.PrintLast
open Go.Proofs.Ytnompdckpenfgaa.Vw
set_option linter.unusedVariables false
set_option linter.unusedSimpArgs false

theorem u64_nat (n : Nat) (h : n < 18446744073709551616) : IntKind.u64.wrap (n : Int) = (n : Int) := by rw [IntKind.wrap_u64]; omega
theorem u64_id (n : Int) (h0 : 0 ≤ n) (h : n < 18446744073709551616) : IntKind.u64.wrap n = n := by rw [IntKind.wrap_u64]; omega
theorem w64_id (n : Int) (h0 : -9223372036854775808 ≤ n) (h : n < 9223372036854775808) : wrap64 n = n := by unfold wrap64; omega
theorem w64_nat (n : Nat) (h : n < 9223372036854775808) : wrap64 (n : Int) = (n : Int) := w64_id _ (by omega) (by omega)
theorem tdiv_nat (a b : Nat) : Int.tdiv (a : Int) (b : Int) = ((a / b : Nat) : Int) := by rw [Int.tdiv_eq_ediv_of_nonneg (by omega)]; simp
theorem tmod_nat (a b : Nat) : Int.tmod (a : Int) (b : Int) = ((a % b : Nat) : Int) := by rw [Int.tmod_eq_emod_of_nonneg (by omega)]; simp
theorem u64_of_wf {n : Int} (h : (Lit.int .u64 n).wf = true) : ∃ x : Nat, n = (x : Int) ∧ x < 18446744073709551616 := by
  have := bounds_u64 h
  exact ⟨n.toNat, by omega, by omega⟩
theorem i64_of_wf {n : Int} (h : (Lit.int .i64 n).wf = true) : -9223372036854775808 ≤ n ∧ n ≤ 9223372036854775807 := bounds_i64 h
theorem rd_bl (f : Nat → Bool) (n i : Nat) (h : i < n) : rd (bl f n) (i : Int) = bi (f i) := by
  unfold rd
  rw [Int.toNat_natCast]
  exact bl_get f n i h
theorem two64 : (2 : Nat) ^ 64 = 18446744073709551616 := by decide
theorem and_nat (a b : Nat) (ha : a < 18446744073709551616) (hb : b < 18446744073709551616) : Go.bits .and .u64 (a : Int) (b : Int) = ((a &&& b : Nat) : Int) := u64_and_nat a b ha hb
theorem or_nat (a b : Nat) (ha : a < 18446744073709551616) (hb : b < 18446744073709551616) : Go.bits .or .u64 (a : Int) (b : Int) = ((a ||| b : Nat) : Int) := u64_or_nat a b ha hb
theorem xor_nat (a b : Nat) (ha : a < 18446744073709551616) (hb : b < 18446744073709551616) : Go.bits .xor .u64 (a : Int) (b : Int) = ((a ^^^ b : Nat) : Int) := u64_xor_nat a b ha hb
theorem andNot_nat (a b : Nat) (ha : a < 18446744073709551616) (hb : b < 18446744073709551616) : Go.bits .andNot .u64 (a : Int) (b : Int) = ((a &&& (18446744073709551615 - b) : Nat) : Int) := u64_andNot_nat a b ha hb
theorem and_lt {a b : Nat} (ha : a < 18446744073709551616) : a &&& b < 18446744073709551616 := Nat.lt_of_le_of_lt Nat.and_le_left ha
theorem or_lt {a b : Nat} (ha : a < 18446744073709551616) (hb : b < 18446744073709551616) : a ||| b < 18446744073709551616 := by
  have := Nat.or_lt_two_pow (n := 64) (x := a) (y := b) (by rw [two64]; exact ha) (by rw [two64]; exact hb)
  rw [two64] at this; exact this
theorem xor_lt {a b : Nat} (ha : a < 18446744073709551616) (hb : b < 18446744073709551616) : a ^^^ b < 18446744073709551616 := by
  have := Nat.xor_lt_two_pow (n := 64) (x := a) (y := b) (by rw [two64]; exact ha) (by rw [two64]; exact hb)
  rw [two64] at this; exact this
theorem not_nat (b : Nat) (hb : b < 18446744073709551616) : Go.bits .xor .u64 18446744073709551615 (b : Int) = ((18446744073709551615 - b : Nat) : Int) := by
  have h := xor_nat 18446744073709551615 b (by omega) hb
  have e : (18446744073709551615 : Nat) ^^^ b = 18446744073709551615 - b := by
    apply Nat.eq_of_testBit_eq
    intro i
    rw [Nat.testBit_xor]
    have e1 : (18446744073709551615 : Nat) = 2 ^ 64 - 1 := by decide
    have e2 : (18446744073709551615 : Nat) - b = 2 ^ 64 - (b + 1) := by rw [two64]; omega
    rw [e2, Nat.testBit_two_pow_sub_succ (by rw [two64]; exact hb), e1, Nat.testBit_two_pow_sub_one]
    by_cases hi : i < 64
    · simp [hi]
    · have : b < 2 ^ i := Nat.lt_of_lt_of_le hb (by rw [← two64]; exact Nat.pow_le_pow_right (by decide) (by omega))
      simp [hi, Nat.testBit_lt_two_pow this]
  rw [e] at h
  exact h
theorem tb_not (b i : Nat) (hb : b < 18446744073709551616) : (18446744073709551615 - b).testBit i = (decide (i < 64) && !b.testBit i) := by
  have e2 : (18446744073709551615 : Nat) - b = 2 ^ 64 - (b + 1) := by rw [two64]; omega
  rw [e2, Nat.testBit_two_pow_sub_succ (by rw [two64]; exact hb)]
theorem eq64 {x y : Nat} (hx : x < 18446744073709551616) (hy : y < 18446744073709551616) (h : ∀ i, i < 64 → x.testBit i = y.testBit i) : x = y :=
  eq_of_bits (n := 64) (by rw [two64]; exact hx) (by rw [two64]; exact hy) h
theorem ob64 {x : Nat} (h : x < 18446744073709551616) : ob x.testBit 64 = x := ob_testBit (by rw [two64]; exact h)
theorem ob64_lt (f : Nat → Bool) : ob f 64 < 18446744073709551616 := by have := ob_lt f 64; rw [two64] at this; exact this
theorem shr_nat (x i : Nat) (hi : i ≤ 64) : shr .u64 (x : Int) (i : Int) = ((x / 2 ^ i : Nat) : Int) := by
  unfold shr
  rw [Int.toNat_natCast, Nat.min_eq_left (by simpa [IntKind.bits] using hi)]
  simp
theorem shl_nat (x i : Nat) (hi : i ≤ 64) : shl .u64 (x : Int) (i : Int) = ((x * 2 ^ i % 18446744073709551616 : Nat) : Int) := by
  unfold shl
  rw [Int.toNat_natCast, Nat.min_eq_left (by simpa [IntKind.bits] using hi), IntKind.wrap_u64]
  simp
theorem tb_shl (x s i : Nat) : (x * 2 ^ s % 18446744073709551616).testBit i = (decide (i < 64) && (decide (s ≤ i) && x.testBit (i - s))) := by
  rw [← two64, Nat.testBit_mod_two_pow, Nat.testBit_mul_two_pow]
theorem tb_shr (x s i : Nat) : (x / 2 ^ s).testBit i = x.testBit (s + i) := by
  rw [Nat.testBit_div_two_pow, Nat.add_comm]
/-- How many bits a number of bits asks for: at most 64. -/
def cnt (n : Int) : Nat := min n.toNat 64
theorem cnt_le (n : Int) : cnt n ≤ 64 := by unfold cnt; omega
theorem mn64 (n : Int) (i : Nat) : ((i : Int) < mn n 64) ↔ i < cnt n := by
  unfold mn cnt
  split <;> omega
def mask (n : Int) : Nat := 2 ^ cnt n - 1
theorem mask_lt (n : Int) : mask n < 18446744073709551616 := by
  unfold mask
  have h1 : 2 ^ cnt n ≤ 2 ^ 64 := Nat.pow_le_pow_right (by decide) (cnt_le n)
  have h2 : 0 < 2 ^ cnt n := Nat.two_pow_pos _
  rw [two64] at h1; omega
theorem tb_mask (n : Int) (i : Nat) : (mask n).testBit i = decide (i < cnt n) := by unfold mask; rw [Nat.testBit_two_pow_sub_one]
def getW (x : Nat) (at_ n : Int) : Nat := if 0 ≤ at_ ∧ at_ ≤ 63 then x / 2 ^ at_.toNat % 2 ^ cnt n else 0
theorem getW_lt {x : Nat} (h : x < 18446744073709551616) (at_ n : Int) : getW x at_ n < 18446744073709551616 := by
  unfold getW
  split
  · have h1 : x / 2 ^ at_.toNat % 2 ^ cnt n ≤ x / 2 ^ at_.toNat := Nat.mod_le _ _
    have h2 : x / 2 ^ at_.toNat ≤ x := Nat.div_le_self _ _
    omega
  · omega
theorem tb_getW (x : Nat) (at_ n : Int) (i : Nat) : (getW x at_ n).testBit i = (decide (0 ≤ at_ ∧ at_ ≤ 63) && (decide (i < cnt n) && x.testBit (at_.toNat + i))) := by
  unfold getW
  split
  · rename_i h
    rw [Nat.testBit_mod_two_pow, tb_shr]
    simp [h]
  · rename_i h
    simp [h]
def sextW (x : Nat) (n : Int) : Nat := if n ≤ 0 then 0 else if 64 ≤ n then x else ob (fun i => x.testBit (if i < n.toNat then i else n.toNat - 1)) 64
def putW (x : Nat) (at_ n : Int) (v : Nat) : Nat := if 0 ≤ at_ ∧ at_ ≤ 63 then ob (fun i => if at_.toNat ≤ i ∧ i < at_.toNat + cnt n then v.testBit (i - at_.toNat) else x.testBit i) 64 else x
theorem sextW_lt {x : Nat} (h : x < 18446744073709551616) (n : Int) : sextW x n < 18446744073709551616 := by
  unfold sextW
  split
  · omega
  · split
    · exact h
    · exact ob64_lt _
theorem putW_lt {x : Nat} (h : x < 18446744073709551616) (at_ n : Int) (v : Nat) : putW x at_ n v < 18446744073709551616 := by
  unfold putW
  split
  · exact ob64_lt _
  · exact h
theorem word_Mask_is (n : Int) : word_Mask.f n = some ((mask n : Nat) : Int) := by
  unfold word_Mask.f mask cnt
  by_cases h0 : n ≤ 0
  · rw [if_pos h0, show n.toNat = 0 by omega]; rfl
  · rw [if_neg h0]
    by_cases h1 : n ≥ 64
    · rw [if_pos h1, show min n.toNat 64 = 64 by omega]; rfl
    · rw [if_neg h1, if_pos (by omega)]
      obtain ⟨m, rfl⟩ := Int.eq_ofNat_of_zero_le (a := n) (by omega)
      have hm : m < 64 := by omega
      have e := shl_nat 1 m (by omega)
      have hp : 2 ^ m < 2 ^ 64 := Nat.pow_lt_pow_right (by decide) hm
      have hp0 : 0 < 2 ^ m := Nat.two_pow_pos _
      rw [two64] at hp
      rw [show ((1 : Int)) = ((1 : Nat) : Int) from rfl, e, Int.toNat_natCast, Nat.one_mul, Nat.mod_eq_of_lt hp, Nat.min_eq_left (by omega), u64_id _ (by omega) (by omega)]
      congr 1
      omega
theorem word_Get_is (x : Nat) (at_ n : Int) (hx : x < 18446744073709551616) : word_Get.f (x : Int) at_ n = some ((getW x at_ n : Nat) : Int) := by
  unfold word_Get.f
  by_cases h0 : at_ < 0
  · rw [if_pos h0]; unfold getW; rw [if_neg (by omega)]; rfl
  · rw [if_neg h0]
    by_cases h1 : at_ > 63
    · rw [if_pos h1]; unfold getW; rw [if_neg (by omega)]; rfl
    · rw [if_neg h1, if_pos (by omega), word_Mask_is]
      simp only [Option.bind_some]
      obtain ⟨a, rfl⟩ := Int.eq_ofNat_of_zero_le (a := at_) (by omega)
      rw [shr_nat x a (by omega), and_nat _ _ (Nat.lt_of_le_of_lt (Nat.div_le_self _ _) hx) (mask_lt n)]
      unfold getW mask
      rw [if_pos (by omega), Nat.and_two_pow_sub_one_eq_mod, Int.toNat_natCast]
theorem within_word (a n b m : Nat) (ha : a < 18446744073709551616) (hn : n < 18446744073709551616) (hb : b < 18446744073709551616) (hm : m < 18446744073709551616) : word_Within.f (a : Int) (n : Int) (b : Int) (m : Int) = some (decide (b ≤ a ∧ a + n ≤ b + m)) := by
  unfold word_Within.f
  by_cases c1 : (a : Int) < b
  · rw [if_pos c1]; exact congrArg some (decide_eq_false (by omega)).symm
  · rw [if_neg c1]
    by_cases c2 : (n : Int) > m
    · rw [if_pos c2]; exact congrArg some (decide_eq_false (by omega)).symm
    · rw [if_neg c2, u64_id _ (by omega) (by omega), u64_id _ (by omega) (by omega)]
      exact congrArg some (decide_eq_decide.mpr (by omega))
end Go.Proofs.Ytnompdckpenfgaa.Pure
