import Derived.Test.YtijckgnhkmgpnaaPAllx1
import Derived.Test.YtijckgnhkmgpnaaPAllx2
import Derived.Test.YtijckgnhkmgpnaaPAllx3
import Derived.Test.YtijckgnhkmgpnaaPAllx4
import Derived.Test.YtijckgnhkmgpnaaPAllx5
import Derived.OpenShut
import Derived.Laws.BitsAllLaws
import Derived.Test.YtijckgnhkmgpnaaVw
namespace Go.Proofs.Ytijckgnhkmgpnaa.Pure
open Go.RowKit Go.Proofs.Ytijckgnhkmgpnaa.PAll Go.Proofs.YtijckgnhkmgpnaaW.PrintWords Go.Proofs.YtijckgnhkmgpnaaW.PrintLast
open Go.Proofs.Ytijckgnhkmgpnaa.Vw
set_option linter.unusedVariables false
set_option linter.unusedSimpArgs false

theorem u64_nat (n : Nat) (h : n < 18446744073709551616) : IntKind.u64.wrap (n : Int) = (n : Int) := by rw [IntKind.wrap_u64]; omega
theorem u64_id (n : Int) (h0 : 0 ≤ n) (h : n < 18446744073709551616) : IntKind.u64.wrap n = n := by rw [IntKind.wrap_u64]; omega
theorem w64_id (n : Int) (h0 : -9223372036854775808 ≤ n) (h : n < 9223372036854775808) : wrap64 n = n := by unfold wrap64; omega
theorem w64_nat (n : Nat) (h : n < 9223372036854775808) : wrap64 (n : Int) = (n : Int) := w64_id _ (by omega) (by omega)
theorem tdiv_nat (a b : Nat) : Int.tdiv (a : Int) (b : Int) = ((a / b : Nat) : Int) := by rw [Int.tdiv_eq_ediv_of_nonneg (by omega)]; simp
theorem tmod_nat (a b : Nat) : Int.tmod (a : Int) (b : Int) = ((a % b : Nat) : Int) := by rw [Int.tmod_eq_emod_of_nonneg (by omega)]; simp
theorem u64_of_wf {n : Int} (h : (Lit.int .u64 n).wf = true) : ∃ x : Nat, n = (x : Int) ∧ x < 18446744073709551616 := by
  have := bounds_u64 h
  exact ⟨n.toNat, by omega, by omega⟩
theorem i64_of_wf {n : Int} (h : (Lit.int .i64 n).wf = true) : -9223372036854775808 ≤ n ∧ n ≤ 9223372036854775807 := bounds_i64 h
theorem rd_bl (f : Nat → Bool) (n i : Nat) (h : i < n) : rd (bl f n) (i : Int) = bi (f i) := by
  unfold rd
  rw [Int.toNat_natCast]
  exact bl_get f n i h
theorem two64 : (2 : Nat) ^ 64 = 18446744073709551616 := by decide
theorem and_nat (a b : Nat) (ha : a < 18446744073709551616) (hb : b < 18446744073709551616) : Go.bits .and .u64 (a : Int) (b : Int) = ((a &&& b : Nat) : Int) := u64_and_nat a b ha hb
theorem or_nat (a b : Nat) (ha : a < 18446744073709551616) (hb : b < 18446744073709551616) : Go.bits .or .u64 (a : Int) (b : Int) = ((a ||| b : Nat) : Int) := u64_or_nat a b ha hb
theorem xor_nat (a b : Nat) (ha : a < 18446744073709551616) (hb : b < 18446744073709551616) : Go.bits .xor .u64 (a : Int) (b : Int) = ((a ^^^ b : Nat) : Int) := u64_xor_nat a b ha hb
theorem andNot_nat (a b : Nat) (ha : a < 18446744073709551616) (hb : b < 18446744073709551616) : Go.bits .andNot .u64 (a : Int) (b : Int) = ((a &&& (18446744073709551615 - b) : Nat) : Int) := u64_andNot_nat a b ha hb
theorem and_lt {a b : Nat} (ha : a < 18446744073709551616) : a &&& b < 18446744073709551616 := Nat.lt_of_le_of_lt Nat.and_le_left ha
theorem or_lt {a b : Nat} (ha : a < 18446744073709551616) (hb : b < 18446744073709551616) : a ||| b < 18446744073709551616 := by
  have := Nat.or_lt_two_pow (n := 64) (x := a) (y := b) (by rw [two64]; exact ha) (by rw [two64]; exact hb)
  rw [two64] at this; exact this
theorem xor_lt {a b : Nat} (ha : a < 18446744073709551616) (hb : b < 18446744073709551616) : a ^^^ b < 18446744073709551616 := by
  have := Nat.xor_lt_two_pow (n := 64) (x := a) (y := b) (by rw [two64]; exact ha) (by rw [two64]; exact hb)
  rw [two64] at this; exact this
theorem not_nat (b : Nat) (hb : b < 18446744073709551616) : Go.bits .xor .u64 18446744073709551615 (b : Int) = ((18446744073709551615 - b : Nat) : Int) := by
  have h := xor_nat 18446744073709551615 b (by omega) hb
  have e : (18446744073709551615 : Nat) ^^^ b = 18446744073709551615 - b := by
    apply Nat.eq_of_testBit_eq
    intro i
    rw [Nat.testBit_xor]
    have e1 : (18446744073709551615 : Nat) = 2 ^ 64 - 1 := by decide
    have e2 : (18446744073709551615 : Nat) - b = 2 ^ 64 - (b + 1) := by rw [two64]; omega
    rw [e2, Nat.testBit_two_pow_sub_succ (by rw [two64]; exact hb), e1, Nat.testBit_two_pow_sub_one]
    by_cases hi : i < 64
    · simp [hi]
    · have : b < 2 ^ i := Nat.lt_of_lt_of_le hb (by rw [← two64]; exact Nat.pow_le_pow_right (by decide) (by omega))
      simp [hi, Nat.testBit_lt_two_pow this]
  rw [e] at h
  exact h
theorem tb_not (b i : Nat) (hb : b < 18446744073709551616) : (18446744073709551615 - b).testBit i = (decide (i < 64) && !b.testBit i) := by
  have e2 : (18446744073709551615 : Nat) - b = 2 ^ 64 - (b + 1) := by rw [two64]; omega
  rw [e2, Nat.testBit_two_pow_sub_succ (by rw [two64]; exact hb)]
theorem eq64 {x y : Nat} (hx : x < 18446744073709551616) (hy : y < 18446744073709551616) (h : ∀ i, i < 64 → x.testBit i = y.testBit i) : x = y :=
  eq_of_bits (n := 64) (by rw [two64]; exact hx) (by rw [two64]; exact hy) h
theorem ob64 {x : Nat} (h : x < 18446744073709551616) : ob x.testBit 64 = x := ob_testBit (by rw [two64]; exact h)
theorem ob64_lt (f : Nat → Bool) : ob f 64 < 18446744073709551616 := by have := ob_lt f 64; rw [two64] at this; exact this
theorem shr_nat (x i : Nat) (hi : i ≤ 64) : shr .u64 (x : Int) (i : Int) = ((x / 2 ^ i : Nat) : Int) := by
  unfold shr
  rw [Int.toNat_natCast, Nat.min_eq_left (by simpa [IntKind.bits] using hi)]
  simp
theorem shl_nat (x i : Nat) (hi : i ≤ 64) : shl .u64 (x : Int) (i : Int) = ((x * 2 ^ i % 18446744073709551616 : Nat) : Int) := by
  unfold shl
  rw [Int.toNat_natCast, Nat.min_eq_left (by simpa [IntKind.bits] using hi), IntKind.wrap_u64]
  simp
theorem tb_shl (x s i : Nat) : (x * 2 ^ s % 18446744073709551616).testBit i = (decide (i < 64) && (decide (s ≤ i) && x.testBit (i - s))) := by
  rw [← two64, Nat.testBit_mod_two_pow, Nat.testBit_mul_two_pow]
theorem tb_shr (x s i : Nat) : (x / 2 ^ s).testBit i = x.testBit (s + i) := by
  rw [Nat.testBit_div_two_pow, Nat.add_comm]
/-- How many bits a number of bits asks for: at most 64. -/
def cnt (n : Int) : Nat := min n.toNat 64
theorem cnt_le (n : Int) : cnt n ≤ 64 := by unfold cnt; omega
theorem mn64 (n : Int) (i : Nat) : ((i : Int) < mn n 64) ↔ i < cnt n := by
  unfold mn cnt
  split <;> omega
def mask (n : Int) : Nat := 2 ^ cnt n - 1
theorem mask_lt (n : Int) : mask n < 18446744073709551616 := by
  unfold mask
  have h1 : 2 ^ cnt n ≤ 2 ^ 64 := Nat.pow_le_pow_right (by decide) (cnt_le n)
  have h2 : 0 < 2 ^ cnt n := Nat.two_pow_pos _
  rw [two64] at h1; omega
theorem tb_mask (n : Int) (i : Nat) : (mask n).testBit i = decide (i < cnt n) := by unfold mask; rw [Nat.testBit_two_pow_sub_one]
def getW (x : Nat) (at_ n : Int) : Nat := if 0 ≤ at_ ∧ at_ ≤ 63 then x / 2 ^ at_.toNat % 2 ^ cnt n else 0
theorem getW_lt {x : Nat} (h : x < 18446744073709551616) (at_ n : Int) : getW x at_ n < 18446744073709551616 := by
  unfold getW
  split
  · have h1 : x / 2 ^ at_.toNat % 2 ^ cnt n ≤ x / 2 ^ at_.toNat := Nat.mod_le _ _
    have h2 : x / 2 ^ at_.toNat ≤ x := Nat.div_le_self _ _
    omega
  · omega
theorem tb_getW (x : Nat) (at_ n : Int) (i : Nat) : (getW x at_ n).testBit i = (decide (0 ≤ at_ ∧ at_ ≤ 63) && (decide (i < cnt n) && x.testBit (at_.toNat + i))) := by
  unfold getW
  split
  · rename_i h
    rw [Nat.testBit_mod_two_pow, tb_shr]
    simp [h]
  · rename_i h
    simp [h]
def sextW (x : Nat) (n : Int) : Nat := if n ≤ 0 then 0 else if 64 ≤ n then x else ob (fun i => x.testBit (if i < n.toNat then i else n.toNat - 1)) 64
def putW (x : Nat) (at_ n : Int) (v : Nat) : Nat := if 0 ≤ at_ ∧ at_ ≤ 63 then ob (fun i => if at_.toNat ≤ i ∧ i < at_.toNat + cnt n then v.testBit (i - at_.toNat) else x.testBit i) 64 else x
theorem sextW_lt {x : Nat} (h : x < 18446744073709551616) (n : Int) : sextW x n < 18446744073709551616 := by
  unfold sextW
  split
  · omega
  · split
    · exact h
    · exact ob64_lt _
theorem putW_lt {x : Nat} (h : x < 18446744073709551616) (at_ n : Int) (v : Nat) : putW x at_ n v < 18446744073709551616 := by
  unfold putW
  split
  · exact ob64_lt _
  · exact h
theorem word_Mask_is (n : Int) : word_Mask.f n = some ((mask n : Nat) : Int) := by
  unfold word_Mask.f mask cnt
  by_cases h0 : n ≤ 0
  · rw [if_pos h0, show n.toNat = 0 by omega]; rfl
  · rw [if_neg h0]
    by_cases h1 : n ≥ 64
    · rw [if_pos h1, show min n.toNat 64 = 64 by omega]; rfl
    · rw [if_neg h1, if_pos (by omega)]
      obtain ⟨m, rfl⟩ := Int.eq_ofNat_of_zero_le (a := n) (by omega)
      have hm : m < 64 := by omega
      have e := shl_nat 1 m (by omega)
      have hp : 2 ^ m < 2 ^ 64 := Nat.pow_lt_pow_right (by decide) hm
      have hp0 : 0 < 2 ^ m := Nat.two_pow_pos _
      rw [two64] at hp
      rw [show ((1 : Int)) = ((1 : Nat) : Int) from rfl, e, Int.toNat_natCast, Nat.one_mul, Nat.mod_eq_of_lt hp, Nat.min_eq_left (by omega), u64_id _ (by omega) (by omega)]
      congr 1
      omega
theorem word_Get_is (x : Nat) (at_ n : Int) (hx : x < 18446744073709551616) : word_Get.f (x : Int) at_ n = some ((getW x at_ n : Nat) : Int) := by
  unfold word_Get.f
  by_cases h0 : at_ < 0
  · rw [if_pos h0]; unfold getW; rw [if_neg (by omega)]; rfl
  · rw [if_neg h0]
    by_cases h1 : at_ > 63
    · rw [if_pos h1]; unfold getW; rw [if_neg (by omega)]; rfl
    · rw [if_neg h1, if_pos (by omega), word_Mask_is]
      simp only [Option.bind_some]
      obtain ⟨a, rfl⟩ := Int.eq_ofNat_of_zero_le (a := at_) (by omega)
      rw [shr_nat x a (by omega), and_nat _ _ (Nat.lt_of_le_of_lt (Nat.div_le_self _ _) hx) (mask_lt n)]
      unfold getW mask
      rw [if_pos (by omega), Nat.and_two_pow_sub_one_eq_mod, Int.toNat_natCast]
theorem getW_one (x : Nat) (at_ : Int) : getW x at_ 1 = if (decide (0 ≤ at_ ∧ at_ ≤ 63) && x.testBit at_.toNat) = true then 1 else 0 := by
  unfold getW
  by_cases h : 0 ≤ at_ ∧ at_ ≤ 63
  · rw [if_pos h, show cnt 1 = 1 from rfl]
    have := bit_at x at_.toNat
    have h2 := Nat.mod_two_eq_zero_or_one (x / 2 ^ at_.toNat)
    simp only [Nat.pow_one]
    rw [Nat.testBit_eq_decide_div_mod_eq]
    rcases h2 with e | e <;> simp [h, e]
  · rw [if_neg h]; simp [h]
theorem word_Bit_is (x : Nat) (at_ : Int) (hx : x < 18446744073709551616) : word_Bit.f (x : Int) at_ = some (decide (0 ≤ at_ ∧ at_ ≤ 63) && x.testBit at_.toNat) := by
  unfold word_Bit.f
  rw [word_Get_is x at_ 1 hx, getW_one]
  simp only [Option.bind_some]
  split <;> rename_i h
  · rw [h]; rfl
  · rw [Bool.not_eq_true] at h; rw [h]; rfl
theorem word_Sext_is (k : Nat) (hk : 0 < k) (x : Nat) (n : Int) (hx : x < 18446744073709551616) (hn : -9223372036854775808 ≤ n ∧ n ≤ 9223372036854775807) : word_Sext.f k (x : Int) n = some ((sextW x n : Nat) : Int) := by
  obtain ⟨k, rfl⟩ : ∃ m, k = m + 1 := ⟨k - 1, by omega⟩
  have hm := mask_lt n
  have ham : Go.bits .and .u64 (x : Int) ((mask n : Nat) : Int) = ((x &&& mask n : Nat) : Int) := and_nat _ _ hx hm
  have hand : x &&& mask n = x % 2 ^ cnt n := by unfold mask; rw [Nat.and_two_pow_sub_one_eq_mod]
  unfold word_Sext.f
  by_cases h0 : n ≤ 0
  · rw [if_pos h0]
    simp only [word_Sext.j0, if_true]
    rw [word_Mask_is]
    simp only [Option.bind_some]
    rw [ham, hand]
    unfold sextW
    rw [if_pos h0, show cnt n = 0 by unfold cnt; omega]
    simp [Nat.mod_one]
  · rw [if_neg h0]
    by_cases h1 : n ≥ 64
    · simp only [word_Sext.j0, h1, decide_true, if_true]
      rw [word_Mask_is]
      simp only [Option.bind_some]
      rw [ham, hand]
      unfold sextW
      rw [if_neg h0, if_pos h1, show cnt n = 64 by unfold cnt; omega, two64, Nat.mod_eq_of_lt hx]
    · simp only [word_Sext.j0, h1, decide_false, Bool.false_eq_true, if_false]
      rw [word_Mask_is]
      simp only [Option.bind_some]
      obtain ⟨m, rfl⟩ := Int.eq_ofNat_of_zero_le (a := n) (by omega)
      have hc : cnt (m : Int) = m := by unfold cnt; rw [Int.toNat_natCast]; omega
      rw [ham, hand, w64_id _ (by omega) (by omega), word_Bit_is _ _ (Nat.lt_of_le_of_lt (Nat.mod_le _ _) hx)]
      simp only [Option.bind_some]
      have hlt : x % 2 ^ cnt (m : Int) < 18446744073709551616 := Nat.lt_of_le_of_lt (Nat.mod_le _ _) hx
      have e1 : ((m : Int) - 1).toNat = m - 1 := by omega
      have hb : (decide (0 ≤ (m : Int) - 1 ∧ (m : Int) - 1 ≤ 63) && (x % 2 ^ cnt (m : Int)).testBit ((m : Int) - 1).toNat) = x.testBit (m - 1) := by
        rw [e1, hc, Nat.testBit_mod_two_pow]
        have : 0 ≤ (m : Int) - 1 ∧ (m : Int) - 1 ≤ 63 := by omega
        rw [decide_eq_true this, decide_eq_true (show m - 1 < m by omega)]
        rfl
      rw [hb]
      have es : sextW x (m : Int) = ob (fun i => x.testBit (if i < m then i else m - 1)) 64 := by
        unfold sextW
        rw [if_neg h0, if_neg h1, Int.toNat_natCast]
      rw [es]
      by_cases hs : x.testBit (m - 1) = true
      · rw [if_pos hs, not_nat _ hm, or_nat _ _ hlt (by omega)]
        congr 2
        apply eq64 (or_lt hlt (by omega)) (ob64_lt _)
        intro i hi
        rw [Nat.testBit_or, tb_not _ _ hm, tb_mask, testBit_ob, hc, Nat.testBit_mod_two_pow]
        by_cases h : i < m
        · simp [h, hi]
        · simp [h, hi, hs]
      · rw [if_neg hs]
        congr 2
        apply eq64 hlt (ob64_lt _)
        intro i hi
        rw [testBit_ob, hc, Nat.testBit_mod_two_pow]
        by_cases h : i < m
        · simp [h, hi]
        · simp [h, hi]
          simpa using hs
theorem word_Sext32_is (x : Nat) (hx : x < 18446744073709551616) : word_Sext32.f (x : Int) = some ((sextW x 32 : Nat) : Int) := by
  unfold word_Sext32.f
  have e : sextW x 32 = if x.testBit 31 then x % 4294967296 + 18446744069414584320 else x % 4294967296 := by
    unfold sextW
    rw [if_neg (by omega), if_neg (by omega)]
    show ob (fun i => x.testBit (if i < 32 then i else 31)) 64 = _
    have hlt : x % 4294967296 < 2 ^ 32 := Nat.mod_lt _ (by decide)
    apply eq64 (ob64_lt _)
    · split <;> omega
    · intro i hi
      rw [testBit_ob]
      by_cases hs : x.testBit 31 = true
      · rw [if_pos hs]
        have e3 : x % 4294967296 + 18446744069414584320 = 2 ^ 32 * (2 ^ 32 - 1) + x % 4294967296 := by omega
        rw [e3, Nat.testBit_two_pow_mul_add _ hlt]
        rw [show (4294967296 : Nat) = 2 ^ 32 from rfl, Nat.testBit_mod_two_pow, Nat.testBit_two_pow_sub_one]
        by_cases h : i < 32
        · simp [h, hi]
        · simp [h, hi, hs]; omega
      · rw [if_neg hs, show (4294967296 : Nat) = 2 ^ 32 from rfl, Nat.testBit_mod_two_pow]
        by_cases h : i < 32
        · simp [h, hi]
        · simp [h, hi]; simpa using hs
  have ew : IntKind.u64.wrap (wrap64 (wrap32 (x : Int))) = if x / 2147483648 % 2 = 1 then ((x % 4294967296 + 18446744069414584320 : Nat) : Int) else ((x % 4294967296 : Nat) : Int) := by
    rw [IntKind.wrap_u64]
    unfold wrap32 wrap64
    split <;> omega
  rw [ew, e, Nat.testBit_eq_decide_div_mod_eq]
  by_cases hs : x / 2147483648 % 2 = 1
  · rw [if_pos hs, if_pos (by rw [decide_eq_true_iff]; exact hs)]
  · rw [if_neg hs, if_neg (by rw [decide_eq_true_iff]; exact hs)]
theorem Bits_l (x : Nat) (hx : x < 18446744073709551616) (d : Nat) : ∀ (k i : Nat), i + d = 64 → d < k → vireoref01_Bits.l0 k ((x / 2 ^ i : Nat) : Int) (bl x.testBit i) (i : Int) = some (bl x.testBit 64) := by
  induction d with
  | zero =>
    intro k i hi hk
    obtain ⟨k, rfl⟩ : ∃ m, k = m + 1 := ⟨k - 1, by omega⟩
    obtain rfl : i = 64 := by omega
    simp only [vireoref01_Bits.l0]
    rw [if_neg (by omega)]
  | succ d ih =>
    intro k i hi hk
    obtain ⟨k, rfl⟩ : ∃ m, k = m + 1 := ⟨k - 1, by omega⟩
    simp only [vireoref01_Bits.l0]
    have hl : x / 2 ^ i ≤ x := Nat.div_le_self _ _
    rw [if_pos (by omega), if_pos (by rw [bl_length]; omega)]
    have e1 : IntKind.u64.wrap (Int.tdiv ((x / 2 ^ i : Nat) : Int) 2) = ((x / 2 ^ (i + 1) : Nat) : Int) := by
      rw [show (2 : Int) = ((2 : Nat) : Int) from rfl, tdiv_nat, u64_nat _ (by omega), div_next]
    have e2 : wrap64 (Int.tmod ((x / 2 ^ i : Nat) : Int) 2) = bi (x.testBit i) := by
      rw [show (2 : Int) = ((2 : Nat) : Int) from rfl, tmod_nat, w64_id _ (by omega) (by omega), bit_at]
    have e3 : wrap64 ((i : Int) + 1) = ((i + 1 : Nat) : Int) := by rw [w64_id _ (by omega) (by omega)]; rfl
    rw [e1, e2, e3, ← bl_succ]
    exact ih k (i + 1) (by omega) (by omega)
theorem vireoref01_Bits_is (x : Nat) (hx : x < 18446744073709551616) (k : Nat) (hk : 65 ≤ k) : vireoref01_Bits.f k (x : Int) = some (bl x.testBit 64) := by
  unfold vireoref01_Bits.f
  have h := Bits_l x hx 64 k 0 (by omega) (by omega)
  simpa [bl_zero] using h
theorem Word_l (f : Nat → Bool) (n : Nat) (hn : n ≤ 64) (j : Nat) : ∀ (k : Nat), j ≤ n → j < k → vireoref01_Word.l0 k (bl f n) ((ob f n / 2 ^ j : Nat) : Int) ((j : Int) - 1) = some ((ob f n : Nat) : Int) := by
  have hX : ob f n < 18446744073709551616 := by
    have h1 := ob_lt f n
    have h2 : 2 ^ n ≤ 2 ^ 64 := Nat.pow_le_pow_right (by decide) hn
    rw [two64] at h2; omega
  induction j with
  | zero =>
    intro k _ hk
    obtain ⟨k, rfl⟩ : ∃ m, k = m + 1 := ⟨k - 1, by omega⟩
    simp only [vireoref01_Word.l0]
    rw [if_neg (by omega), Nat.pow_zero, Nat.div_one]
  | succ j ih =>
    intro k hj hk
    obtain ⟨k, rfl⟩ : ∃ m, k = m + 1 := ⟨k - 1, by omega⟩
    simp only [vireoref01_Word.l0]
    have ej : (((j + 1 : Nat) : Int) - 1) = (j : Int) := by omega
    rw [ej, if_pos (by omega), if_pos (by omega), if_pos (by rw [bl_length]; omega), rd_bl f n j (by omega)]
    have hb : bi (f j) = ((ob f n / 2 ^ j % 2 : Nat) : Int) := by
      rw [bit_at, testBit_ob]; simp [show j < n by omega]
    have hs := div_step (ob f n) j
    have hl : ob f n / 2 ^ j ≤ ob f n := Nat.div_le_self _ _
    have e1 : IntKind.u64.wrap (IntKind.u64.wrap (((ob f n / 2 ^ (j + 1) : Nat) : Int) * 2) + IntKind.u64.wrap (bi (f j))) = ((ob f n / 2 ^ j : Nat) : Int) := by
      rw [hb, u64_id (((ob f n / 2 ^ (j + 1) : Nat) : Int) * 2) (by omega) (by omega), u64_nat _ (by omega), u64_id _ (by omega) (by omega)]
      omega
    have e2 : wrap64 ((j : Int) - 1) = (j : Int) - 1 := w64_id _ (by omega) (by omega)
    rw [e1, e2]
    exact ih k (by omega) (by omega)
theorem vireoref01_Word_is (f : Nat → Bool) (n : Nat) (hn : n ≤ 64) (k : Nat) (hk : 65 ≤ k) : vireoref01_Word.f k (bl f n) = some ((ob f n : Nat) : Int) := by
  unfold vireoref01_Word.f
  have e : (mn ((bl f n).length : Int) 64) - 1 = (n : Int) - 1 := by
    rw [bl_length]; unfold mn; split <;> omega
  have h := Word_l f n hn n k (Nat.le_refl _) (by omega)
  rw [Nat.div_eq_of_lt (ob_lt f n)] at h
  rw [e]
  exact h
theorem ref_Sext_l (x : Nat) (n : Nat) (h0 : 1 ≤ n) (h1 : n ≤ 63) (d : Nat) : ∀ (k i : Nat), i + d = 64 → n ≤ i → d + 66 ≤ k →
    vireoref01_Sext.l0 k (n : Int) (bl (fun j => if n ≤ j ∧ j < i then x.testBit (n - 1) else x.testBit j) 64) (i : Int) = some ((sextW x (n : Int) : Nat) : Int) := by
  induction d with
  | zero =>
    intro k i hi h2 hk
    obtain ⟨k, rfl⟩ : ∃ m, k = m + 1 := ⟨k - 1, by omega⟩
    simp only [vireoref01_Sext.l0]
    rw [if_neg (by omega), vireoref01_Word_is _ 64 (by omega) k (by omega)]
    simp only [Option.bind_some]
    unfold sextW
    rw [if_neg (by omega), if_neg (by omega), Int.toNat_natCast]
    congr 2
    apply ob_congr
    intro j hj
    by_cases h3 : j < n
    · rw [if_neg (by omega), if_pos h3]
    · rw [if_pos (by omega), if_neg h3]
  | succ d ih =>
    intro k i hi h2 hk
    obtain ⟨k, rfl⟩ : ∃ m, k = m + 1 := ⟨k - 1, by omega⟩
    simp only [vireoref01_Sext.l0]
    have e1 : wrap64 ((n : Int) - 1) = ((n - 1 : Nat) : Int) := by rw [w64_id _ (by omega) (by omega)]; omega
    have e3 : wrap64 ((i : Int) + 1) = ((i + 1 : Nat) : Int) := w64_nat (i + 1) (by omega)
    rw [if_pos (by omega), e1, if_pos (by omega), if_pos (by rw [bl_length]; omega), if_pos (by omega), if_pos (by rw [bl_length]; omega), e3, rd_bl _ 64 (n - 1) (by omega), Int.toNat_natCast, bl_set, if_neg (by omega)]
    have e4 : (fun j => if j = i then x.testBit (n - 1) else if n ≤ j ∧ j < i then x.testBit (n - 1) else x.testBit j) = (fun j => if n ≤ j ∧ j < i + 1 then x.testBit (n - 1) else x.testBit j) := by
      funext j
      by_cases h3 : j = i
      · rw [if_pos h3, if_pos (by omega)]
      · rw [if_neg h3]
        by_cases h4 : n ≤ j ∧ j < i
        · rw [if_pos h4, if_pos (by omega)]
        · rw [if_neg h4, if_neg (by omega)]
    rw [e4]
    exact ih k (i + 1) (by omega) (by omega) (by omega)
theorem vireoref01_Sext_is (x : Nat) (hx : x < 18446744073709551616) (n : Int) (k : Nat) (hk : 140 ≤ k) : vireoref01_Sext.f k (x : Int) n = some ((sextW x n : Nat) : Int) := by
  unfold vireoref01_Sext.f
  by_cases h0 : n < 1
  · rw [if_pos h0]; unfold sextW; rw [if_pos (by omega)]; rfl
  · rw [if_neg h0]
    by_cases h1 : n > 63
    · rw [if_pos h1]; unfold sextW; rw [if_neg (by omega), if_pos (by omega)]
    · rw [if_neg h1, vireoref01_Bits_is x hx k (by omega)]
      simp only [Option.bind_some]
      obtain ⟨m, rfl⟩ := Int.eq_ofNat_of_zero_le (a := n) (by omega)
      have h := ref_Sext_l x m (by omega) (by omega) (64 - m) k m (by omega) (by omega) (by omega)
      rw [show (fun j => if m ≤ j ∧ j < m then x.testBit (m - 1) else x.testBit j) = x.testBit from by funext j; rw [if_neg (by omega)]] at h
      exact h
theorem sext32_val (x : Nat) : sextW x 32 = if x / 2147483648 % 2 = 1 then x % 4294967296 + 18446744069414584320 else x % 4294967296 := by
  have e : sextW x 32 = if x.testBit 31 then x % 4294967296 + 18446744069414584320 else x % 4294967296 := by
    unfold sextW
    rw [if_neg (by omega), if_neg (by omega)]
    show ob (fun i => x.testBit (if i < 32 then i else 31)) 64 = _
    have hlt : x % 4294967296 < 2 ^ 32 := Nat.mod_lt _ (by decide)
    apply eq64 (ob64_lt _)
    · split <;> omega
    · intro i hi
      rw [testBit_ob]
      by_cases hs : x.testBit 31 = true
      · rw [if_pos hs]
        have e3 : x % 4294967296 + 18446744069414584320 = 2 ^ 32 * (2 ^ 32 - 1) + x % 4294967296 := by omega
        rw [e3, Nat.testBit_two_pow_mul_add _ hlt]
        rw [show (4294967296 : Nat) = 2 ^ 32 from rfl, Nat.testBit_mod_two_pow, Nat.testBit_two_pow_sub_one]
        by_cases h : i < 32
        · simp [h, hi]
        · simp [h, hi, hs]; omega
      · rw [if_neg hs, show (4294967296 : Nat) = 2 ^ 32 from rfl, Nat.testBit_mod_two_pow]
        by_cases h : i < 32
        · simp [h, hi]
        · simp [h, hi]; simpa using hs
  rw [e, Nat.testBit_eq_decide_div_mod_eq]
  by_cases hs : x / 2147483648 % 2 = 1
  · rw [if_pos hs, if_pos (by rw [decide_eq_true_iff]; exact hs)]
  · rw [if_neg hs, if_neg (by rw [decide_eq_true_iff]; exact hs)]
theorem sext32_lt (x : Nat) : sextW x 32 < 18446744073709551616 := by rw [sext32_val]; split <;> omega
theorem sext32_low {x y : Nat} (h : x % 4294967296 = y % 4294967296) : sextW x 32 = sextW y 32 := by
  rw [sext32_val, sext32_val]
  have : x / 2147483648 % 2 = y / 2147483648 % 2 := by omega
  rw [this, h]
theorem sext32_mod (x : Nat) : sextW x 32 % 4294967296 = x % 4294967296 := by rw [sext32_val]; split <;> omega
theorem sext32_twice (x : Nat) : sextW (sextW x 32) 32 = sextW x 32 := sext32_low (sext32_mod x)
/-- A word as a number with its sign. -/
def sI (a : Nat) : Int := if 9223372036854775808 ≤ a then (a : Int) - 18446744073709551616 else a
theorem wrap64_sI (a : Nat) (ha : a < 18446744073709551616) : wrap64 (a : Int) = sI a := by unfold wrap64 sI; split <;> omega
theorem pow_split (n w : Nat) (h : n ≤ w) : 2 ^ n * 2 ^ (w - n) = 2 ^ w := by rw [← Nat.pow_add]; congr 1; omega
theorem eqw {x y w : Nat} (hw : w ≤ 64) (hx : x < 2 ^ w) (hy : y < 2 ^ w) (h : ∀ i, i < w → x.testBit i = y.testBit i) : x = y := eq_of_bits hx hy h
/-- To the right, the sign above. -/
def sarW (a n w : Nat) : Nat := if a.testBit (w - 1) then a % 2 ^ w / 2 ^ n + (2 ^ w - 2 ^ (w - n)) else a % 2 ^ w / 2 ^ n
theorem shr_lt (a n w : Nat) (hn : n ≤ w) : a % 2 ^ w / 2 ^ n < 2 ^ (w - n) := by
  rw [Nat.div_lt_iff_lt_mul (Nat.two_pow_pos n), Nat.mul_comm, pow_split n w hn]
  exact Nat.mod_lt _ (Nat.two_pow_pos w)
theorem sarW_lt (a n w : Nat) (hn : n ≤ w) : sarW a n w < 2 ^ w := by
  have h1 := shr_lt a n w hn
  have h2 : 2 ^ (w - n) ≤ 2 ^ w := Nat.pow_le_pow_right (by decide) (by omega)
  unfold sarW
  split <;> omega
theorem tb_sarW (a n w i : Nat) (hn : n < w) (hi : i < w) : (sarW a n w).testBit i = a.testBit (if i + n < w then i + n else w - 1) := by
  have h1 := shr_lt a n w (by omega)
  unfold sarW
  by_cases hs : a.testBit (w - 1) = true
  · rw [if_pos hs]
    have e : a % 2 ^ w / 2 ^ n + (2 ^ w - 2 ^ (w - n)) = 2 ^ (w - n) * (2 ^ n - 1) + a % 2 ^ w / 2 ^ n := by
      rw [Nat.mul_sub, Nat.mul_one, Nat.mul_comm (2 ^ (w - n)), pow_split n w (by omega)]
      omega
    rw [e, Nat.testBit_two_pow_mul_add _ h1]
    by_cases c : i + n < w
    · rw [if_pos c, if_pos (by omega), tb_shr, Nat.testBit_mod_two_pow, Nat.add_comm n i, decide_eq_true c, Bool.true_and]
    · rw [if_neg c, if_neg (by omega), Nat.testBit_two_pow_sub_one, hs]
      exact decide_eq_true (by omega)
  · rw [if_neg hs, tb_shr, Nat.testBit_mod_two_pow, Nat.add_comm n i]
    by_cases c : i + n < w
    · rw [if_pos c, decide_eq_true c, Bool.true_and]
    · rw [if_neg c, decide_eq_false c, Bool.false_and]
      simpa using hs
theorem left_l (a n w : Nat) (hw : w ≤ 64) (hn : n < w) (d : Nat) : ∀ (k i : Nat), i + d = w → d + 66 ≤ k →
    vireoref05_left.l0 k (n : Int) (w : Int) (bl a.testBit 64) (bl (fun j => if j < n then false else a.testBit (j - n)) i) (i : Int) = some ((a * 2 ^ n % 2 ^ w : Nat) : Int) := by
  induction d with
  | zero =>
    intro k i hi hk
    obtain ⟨k, rfl⟩ : ∃ m, k = m + 1 := ⟨k - 1, by omega⟩
    obtain rfl : i = w := by omega
    simp only [vireoref05_left.l0]
    rw [if_neg (by omega), vireoref01_Word_is _ i hw k (by omega), Option.bind_some]
    congr 2
    apply eq_of_bits (ob_lt _ _) (Nat.mod_lt _ (Nat.two_pow_pos _))
    intro j hj
    rw [testBit_ob, Nat.testBit_mod_two_pow, Nat.testBit_mul_two_pow]
    by_cases c : j < n
    · rw [if_pos c, decide_eq_false (show ¬ n ≤ j by omega)]; simp
    · rw [if_neg c, decide_eq_true (show n ≤ j by omega)]; simp
  | succ d ih =>
    intro k i hi hk
    obtain ⟨k, rfl⟩ : ∃ m, k = m + 1 := ⟨k - 1, by omega⟩
    simp only [vireoref05_left.l0]
    have e3 : wrap64 ((i : Int) + 1) = ((i + 1 : Nat) : Int) := w64_nat (i + 1) (by omega)
    have hn2 := ih k (i + 1) (by omega) (by omega)
    rw [bl_succ _ i] at hn2
    rw [if_pos (by omega), e3]
    by_cases c : i < n
    · rw [if_pos (by omega), if_pos (by rw [bl_length]; omega)]
      rw [if_pos c] at hn2
      exact hn2
    · have e4 : wrap64 ((i : Int) - (n : Int)) = ((i - n : Nat) : Int) := by rw [w64_id _ (by omega) (by omega)]; omega
      rw [if_neg c] at hn2
      rw [if_neg (by omega), e4, if_pos (by omega), if_pos (by rw [bl_length]; omega), if_pos (by rw [bl_length]; omega), rd_bl _ 64 (i - n) (by omega)]
      exact hn2
theorem vireoref05_left_is (a n w : Nat) (ha : a < 18446744073709551616) (hw : w ≤ 64) (hn : n < w) (k : Nat) (hk : 140 ≤ k) : vireoref05_left.f k (a : Int) (n : Int) (w : Int) = some ((a * 2 ^ n % 2 ^ w : Nat) : Int) := by
  unfold vireoref05_left.f
  rw [vireoref01_Bits_is a ha k (by omega), Option.bind_some]
  exact left_l a n w hw hn w k 0 (by omega) (by omega)
def rightBits (a n w : Nat) (sign : Bool) (i : Nat) : Bool := if i + n < w then a.testBit (i + n) else (sign && a.testBit (w - 1))
theorem right_l (a n w : Nat) (sign : Bool) (hw : w ≤ 64) (hn : n < w) (d : Nat) : ∀ (k i : Nat), i + d = w → d + 66 ≤ k →
    vireoref05_right.l0 k (n : Int) (w : Int) sign (bl a.testBit 64) (bl (rightBits a n w sign) i) (i : Int) = some ((ob (rightBits a n w sign) w : Nat) : Int) := by
  induction d with
  | zero =>
    intro k i hi hk
    obtain ⟨k, rfl⟩ : ∃ m, k = m + 1 := ⟨k - 1, by omega⟩
    obtain rfl : i = w := by omega
    simp only [vireoref05_right.l0]
    rw [if_neg (by omega), vireoref01_Word_is _ i hw k (by omega), Option.bind_some]
  | succ d ih =>
    intro k i hi hk
    obtain ⟨k, rfl⟩ : ∃ m, k = m + 1 := ⟨k - 1, by omega⟩
    simp only [vireoref05_right.l0]
    have e3 : wrap64 ((i : Int) + 1) = ((i + 1 : Nat) : Int) := w64_nat (i + 1) (by omega)
    have hn2 := ih k (i + 1) (by omega) (by omega)
    have e4 : wrap64 ((i : Int) + (n : Int)) = ((i + n : Nat) : Int) := w64_nat (i + n) (by omega)
    have e5 : wrap64 ((w : Int) - 1) = ((w - 1 : Nat) : Int) := by rw [w64_id _ (by omega) (by omega)]; omega
    rw [bl_succ _ i] at hn2
    rw [if_pos (by omega), e3, e4, e5]
    by_cases c : i + n < w
    · rw [if_pos (by omega), if_pos (by omega), if_pos (by rw [bl_length]; omega), if_pos (by rw [bl_length]; omega), rd_bl _ 64 (i + n) (by omega)]
      rw [show rightBits a n w sign i = a.testBit (i + n) by unfold rightBits; rw [if_pos c]] at hn2
      exact hn2
    · rw [if_neg (by omega)]
      rw [show rightBits a n w sign i = (sign && a.testBit (w - 1)) by unfold rightBits; rw [if_neg c]] at hn2
      cases sign
      · rw [if_neg (by decide), if_pos (by rw [bl_length]; omega)]
        exact hn2
      · rw [if_pos rfl, if_pos (by omega), if_pos (by rw [bl_length]; omega), if_pos (by rw [bl_length]; omega), rd_bl _ 64 (w - 1) (by omega)]
        exact hn2
theorem vireoref05_right_u (a n w : Nat) (ha : a < 18446744073709551616) (hw : w ≤ 64) (hn : n < w) (k : Nat) (hk : 140 ≤ k) : vireoref05_right.f k (a : Int) (n : Int) (w : Int) false = some ((a % 2 ^ w / 2 ^ n : Nat) : Int) := by
  unfold vireoref05_right.f
  rw [vireoref01_Bits_is a ha k (by omega), Option.bind_some]
  refine (right_l a n w false hw hn w k 0 (by omega) (by omega)).trans ?_
  congr 2
  apply eq_of_bits (ob_lt _ _) (Nat.lt_of_le_of_lt (Nat.div_le_self _ _) (Nat.mod_lt _ (Nat.two_pow_pos _)))
  intro j hj
  rw [testBit_ob, tb_shr, Nat.testBit_mod_two_pow, decide_eq_true hj, Nat.add_comm n j]
  unfold rightBits
  by_cases c : j + n < w
  · rw [if_pos c, decide_eq_true c]
  · rw [if_neg c, decide_eq_false c]; rfl
theorem vireoref05_right_s (a n w : Nat) (ha : a < 18446744073709551616) (hw : w ≤ 64) (hn : n < w) (k : Nat) (hk : 140 ≤ k) : vireoref05_right.f k (a : Int) (n : Int) (w : Int) true = some ((sarW a n w : Nat) : Int) := by
  unfold vireoref05_right.f
  rw [vireoref01_Bits_is a ha k (by omega), Option.bind_some]
  refine (right_l a n w true hw hn w k 0 (by omega) (by omega)).trans ?_
  congr 2
  apply eq_of_bits (ob_lt _ _) (sarW_lt a n w (by omega))
  intro j hj
  rw [testBit_ob, tb_sarW a n w j hn hj, decide_eq_true hj, Bool.true_and]
  unfold rightBits
  by_cases c : j + n < w
  · rw [if_pos c, if_pos c]
  · rw [if_neg c, if_neg c, Bool.true_and]
def turnW (a : Nat) : Nat := if 9223372036854775808 ≤ a then a - 9223372036854775808 else a + 9223372036854775808
theorem tb63 (a : Nat) (ha : a < 18446744073709551616) : a.testBit 63 = decide (9223372036854775808 ≤ a) := by
  rw [Nat.testBit_eq_decide_div_mod_eq]
  apply decide_eq_decide.mpr
  omega
theorem turned_ob (a : Nat) (ha : a < 18446744073709551616) : ob (fun j => if j = 63 then !a.testBit 63 else a.testBit j) 64 = turnW a := by
  have h63 := tb63 a ha
  apply eq64 (ob64_lt _)
  · unfold turnW; split <;> omega
  · intro i hi
    rw [testBit_ob, decide_eq_true hi, Bool.true_and]
    unfold turnW
    by_cases c : 9223372036854775808 ≤ a
    · rw [if_pos c]
      by_cases hi2 : i = 63
      · subst hi2
        rw [if_pos rfl, h63, decide_eq_true c, tb63 _ (by omega), decide_eq_false (by omega)]; rfl
      · rw [if_neg hi2]
        have e : a = 2 ^ 63 * 1 + (a - 9223372036854775808) := by omega
        conv => lhs; rw [e]
        rw [Nat.testBit_two_pow_mul_add _ (by omega), if_pos (by omega)]
    · rw [if_neg c]
      by_cases hi2 : i = 63
      · subst hi2
        rw [if_pos rfl, h63, decide_eq_false c, tb63 _ (by omega), decide_eq_true (by omega)]; rfl
      · rw [if_neg hi2]
        have e : a + 9223372036854775808 = 2 ^ 63 * 1 + a := by omega
        rw [e, Nat.testBit_two_pow_mul_add _ (by omega), if_pos (by omega)]
theorem turned_is (a : Nat) (ha : a < 18446744073709551616) (k : Nat) (hk : 140 ≤ k) : vireoref05_turned.f k (a : Int) = some ((turnW a : Nat) : Int) := by
  unfold vireoref05_turned.f
  have e1 : wrap64 (1 - rd (bl a.testBit 64) 63) = bi (!a.testBit 63) := by
    rw [show (63 : Int) = ((63 : Nat) : Int) from rfl, rd_bl _ 64 63 (by omega)]
    cases a.testBit 63 <;> decide +kernel
  rw [vireoref01_Bits_is a ha k (by omega), Option.bind_some, if_pos (by rw [bl_length]; omega), e1, show (63 : Int).toNat = 63 from rfl, bl_set, vireoref01_Word_is _ 64 (by omega) k (by omega), Option.bind_some, turned_ob a ha]
theorem vireoref05_Less_is (a b : Nat) (ha : a < 18446744073709551616) (hb : b < 18446744073709551616) (k : Nat) (hk : 140 ≤ k) : vireoref05_Less.f k (a : Int) (b : Int) = some (decide (sI a < sI b)) := by
  unfold vireoref05_Less.f
  rw [turned_is a ha k hk, Option.bind_some, turned_is b hb k hk, Option.bind_some]
  congr 1
  apply decide_eq_decide.mpr
  unfold turnW sI
  split <;> split <;> omega
def bwW (a b : Nat) (how : Int) : Nat := if how = 0 then a &&& b else if how = 1 then a ||| b else a ^^^ b
theorem bwW_lt (a b : Nat) (how : Int) (ha : a < 18446744073709551616) (hb : b < 18446744073709551616) : bwW a b how < 18446744073709551616 := by
  unfold bwW
  split
  · exact and_lt ha
  · split
    · exact or_lt ha hb
    · exact xor_lt ha hb
theorem bitwise_l (a b : Nat) (ha : a < 18446744073709551616) (hb : b < 18446744073709551616) (how : Int) (d : Nat) : ∀ (k i : Nat), i + d = 64 → d + 66 ≤ k →
    vireoref05_bitwise.l0 k how (bl a.testBit 64) (bl b.testBit 64) (bl (bwW a b how).testBit i) (i : Int) = some ((bwW a b how : Nat) : Int) := by
  induction d with
  | zero =>
    intro k i hi hk
    obtain ⟨k, rfl⟩ : ∃ m, k = m + 1 := ⟨k - 1, by omega⟩
    obtain rfl : i = 64 := by omega
    simp only [vireoref05_bitwise.l0]
    rw [if_neg (by omega), vireoref01_Word_is _ 64 (by omega) k (by omega), Option.bind_some, ob64 (bwW_lt a b how ha hb)]
  | succ d ih =>
    intro k i hi hk
    obtain ⟨k, rfl⟩ : ∃ m, k = m + 1 := ⟨k - 1, by omega⟩
    simp only [vireoref05_bitwise.l0]
    have e3 : wrap64 ((i : Int) + 1) = ((i + 1 : Nat) : Int) := w64_nat (i + 1) (by omega)
    have hn2 := ih k (i + 1) (by omega) (by omega)
    rw [bl_succ _ i] at hn2
    have hlen : (bl (bwW a b how).testBit i).length < 17592186044416 := by rw [bl_length]; omega
    rw [if_pos (by omega), if_pos (by omega), if_pos (by rw [bl_length]; omega), if_pos (by rw [bl_length]; omega), if_pos hlen, if_pos hlen, if_pos hlen, e3, rd_bl _ 64 i (by omega), rd_bl _ 64 i (by omega)]
    have hb3 : (bwW a b how).testBit i = if how = 0 then (a.testBit i && b.testBit i) else if how = 1 then (a.testBit i || b.testBit i) else (a.testBit i ^^ b.testBit i) := by
      unfold bwW
      split
      · rw [Nat.testBit_and]
      · split
        · rw [Nat.testBit_or]
        · rw [Nat.testBit_xor]
    rw [hb3] at hn2
    by_cases c0 : how = 0
    · rw [if_pos c0] at hn2 ⊢
      rw [show wrap64 (Int.tdiv (wrap64 (bi (a.testBit i) + bi (b.testBit i))) 2) = bi (a.testBit i && b.testBit i) by cases a.testBit i <;> cases b.testBit i <;> decide +kernel]
      exact hn2
    · rw [if_neg c0] at hn2 ⊢
      by_cases c1 : how = 1
      · rw [if_pos c1] at hn2 ⊢
        rw [show mn (wrap64 (bi (a.testBit i) + bi (b.testBit i))) 1 = bi (a.testBit i || b.testBit i) by cases a.testBit i <;> cases b.testBit i <;> decide +kernel]
        exact hn2
      · rw [if_neg c1] at hn2 ⊢
        rw [show Int.tmod (wrap64 (bi (a.testBit i) + bi (b.testBit i))) 2 = bi (a.testBit i ^^ b.testBit i) by cases a.testBit i <;> cases b.testBit i <;> decide +kernel]
        exact hn2
theorem vireoref05_bitwise_is (a b : Nat) (ha : a < 18446744073709551616) (hb : b < 18446744073709551616) (how : Int) (k : Nat) (hk : 140 ≤ k) : vireoref05_bitwise.f k (a : Int) (b : Int) how = some ((bwW a b how : Nat) : Int) := by
  unfold vireoref05_bitwise.f
  rw [vireoref01_Bits_is a ha k (by omega), Option.bind_some, vireoref01_Bits_is b hb k (by omega), Option.bind_some]
  exact bitwise_l a b ha hb how 64 k 0 (by omega) (by omega)
theorem and63 (b : Nat) (hb : b < 18446744073709551616) : Go.bits .and .u64 (b : Int) 63 = ((b % 64 : Nat) : Int) := by
  have h := and_nat b 63 hb (by omega)
  have h2 := Nat.and_two_pow_sub_one_eq_mod b 6
  rw [show (63 : Nat) = 2 ^ 6 - 1 from rfl, h2] at h
  exact h
theorem and31 (b : Nat) (hb : b < 18446744073709551616) : Go.bits .and .u64 (b : Int) 31 = ((b % 32 : Nat) : Int) := by
  have h := and_nat b 31 hb (by omega)
  have h2 := Nat.and_two_pow_sub_one_eq_mod b 5
  rw [show (31 : Nat) = 2 ^ 5 - 1 from rfl, h2] at h
  exact h
theorem wt64 (b : Nat) : wrap64 (Int.tmod (b : Int) 64) = ((b % 64 : Nat) : Int) := by rw [show (64 : Int) = ((64 : Nat) : Int) from rfl, tmod_nat, w64_nat _ (by omega)]
theorem wt32 (b : Nat) : wrap64 (Int.tmod (b : Int) 32) = ((b % 32 : Nat) : Int) := by rw [show (32 : Int) = ((32 : Nat) : Int) from rfl, tmod_nat, w64_nat _ (by omega)]
theorem tmod32 (a : Nat) : Int.tmod (a : Int) 4294967296 = ((a % 4294967296 : Nat) : Int) := tmod_nat a 4294967296
theorem sra64 (a n : Nat) (ha : a < 18446744073709551616) (hn : n < 64) : IntKind.u64.wrap (shr .i64 (sI a) (n : Int)) = ((sarW a n 64 : Nat) : Int) := by
  have hp0 : 0 < 2 ^ n := Nat.two_pow_pos n
  have hs := pow_split n 64 (by omega)
  have hlt := shr_lt a n 64 (by omega)
  have hpq : 2 ^ (64 - n) ≤ 2 ^ 64 := Nat.pow_le_pow_right (by decide) (by omega)
  have hsh : shr .i64 (sI a) (n : Int) = sI a / ((2 ^ n : Nat) : Int) := by
    unfold shr
    rw [Int.toNat_natCast, Nat.min_eq_left (show n ≤ IntKind.i64.bits by show n ≤ 64; omega)]
    simp
  rw [hsh]
  unfold sarW
  rw [show (64 - 1 : Nat) = 63 from rfl]
  rw [two64] at *
  rw [Nat.mod_eq_of_lt ha] at *
  rw [show a.testBit 63 = decide (9223372036854775808 ≤ a) by rw [Nat.testBit_eq_decide_div_mod_eq]; apply decide_eq_decide.mpr; omega]
  generalize 2 ^ n = p at *
  generalize 2 ^ (64 - n) = q at *
  have hd : (a : Int) / (p : Int) = ((a / p : Nat) : Int) := (Int.natCast_ediv a p).symm
  unfold sI
  by_cases c : 9223372036854775808 ≤ a
  · rw [if_pos c, decide_eq_true c, if_pos rfl]
    have e : (a : Int) - 18446744073709551616 = (a : Int) + -(q : Int) * (p : Int) := by
      have : (q : Int) * (p : Int) = 18446744073709551616 := by rw [Int.mul_comm, ← Int.natCast_mul, hs]; rfl
      rw [Int.neg_mul, this]; omega
    rw [e, Int.add_mul_ediv_right _ _ (by omega), hd, IntKind.wrap_u64]
    generalize a / p = r at *
    omega
  · rw [if_neg c, decide_eq_false c, if_neg (by decide), hd, IntKind.wrap_u64]
    generalize a / p = r at *
    omega
theorem w_small (r : Nat) (h : r < 2147483648) : wrap64 (r : Int) % 18446744073709551616 = ((r % 4294967296 : Nat) : Int) := by unfold wrap64; omega
theorem w_neg (r q : Nat) (h : r < q) (hq : q ≤ 4294967296) : wrap64 ((r : Int) + -(q : Int)) % 18446744073709551616 = (((r + (4294967296 - q)) % 4294967296 + 18446744069414584320 : Nat) : Int) := by unfold wrap64; omega
theorem sra32 (a n : Nat) (ha : a < 18446744073709551616) (hn : n < 32) : IntKind.u64.wrap (wrap64 (shr .i32 (wrap32 (a : Int)) (n : Int))) = ((sextW (sarW a n 32) 32 : Nat) : Int) := by
  have hp0 : 0 < 2 ^ n := Nat.two_pow_pos n
  have hs := pow_split n 32 (by omega)
  have hlt := shr_lt a n 32 (by omega)
  have hpq : 2 ^ (32 - n) ≤ 2 ^ 32 := Nat.pow_le_pow_right (by decide) (by omega)
  have hq1 : 2 ≤ 2 ^ (32 - n) := (show (2 : Nat) ^ 1 ≤ 2 ^ (32 - n) from Nat.pow_le_pow_right (by decide) (by omega))
  have hsh : shr .i32 (wrap32 (a : Int)) (n : Int) = wrap32 (a : Int) / ((2 ^ n : Nat) : Int) := by
    unfold shr
    rw [Int.toNat_natCast, Nat.min_eq_left (show n ≤ IntKind.i32.bits by show n ≤ 32; omega)]
    simp
  rw [hsh, sext32_val]
  have h31 : a.testBit 31 = decide (2147483648 ≤ a % 4294967296) := by rw [Nat.testBit_eq_decide_div_mod_eq]; apply decide_eq_decide.mpr; omega
  have hbit := tb_sarW a n 32 31 hn (by omega)
  have hv : sarW a n 32 = if 2147483648 ≤ a % 4294967296 then a % 4294967296 / 2 ^ n + (4294967296 - 2 ^ (32 - n)) else a % 4294967296 / 2 ^ n := by
    unfold sarW
    rw [show (32 - 1 : Nat) = 31 from rfl, h31, show (2 : Nat) ^ 32 = 4294967296 from rfl]
    by_cases c : 2147483648 ≤ a % 4294967296
    · rw [decide_eq_true c, if_pos rfl, if_pos c]
    · rw [decide_eq_false c, if_neg (by decide), if_neg c]
  have h32 : (2 : Nat) ^ 32 = 4294967296 := rfl
  rw [h32] at hs hlt hpq
  have htop : 2147483648 ≤ sarW a n 32 ↔ 2147483648 ≤ a % 4294967296 := by
    have hl := sarW_lt a n 32 (by omega)
    rw [h32] at hl
    have e1 : (sarW a n 32).testBit 31 = decide (2147483648 ≤ sarW a n 32) := by rw [Nat.testBit_eq_decide_div_mod_eq]; apply decide_eq_decide.mpr; omega
    have e2 : a.testBit (if 31 + n < 32 then 31 + n else 32 - 1) = a.testBit 31 := by
      by_cases c : 31 + n < 32
      · rw [if_pos c, show 31 + n = 31 by omega]
      · rw [if_neg c]
    rw [e1, e2, h31] at hbit
    exact decide_eq_decide.mp hbit
  have hd : ((a % 4294967296 : Nat) : Int) / ((2 ^ n : Nat) : Int) = ((a % 4294967296 / 2 ^ n : Nat) : Int) := (Int.natCast_ediv _ _).symm
  generalize sarW a n 32 = v at *
  generalize 2 ^ n = p at *
  generalize 2 ^ (32 - n) = q at *
  by_cases c : 2147483648 ≤ a % 4294967296
  · rw [if_pos c] at hv
    have htop2 := htop.mpr c
    have e : wrap32 (a : Int) = ((a % 4294967296 : Nat) : Int) + -(q : Int) * (p : Int) := by
      have : (q : Int) * (p : Int) = 4294967296 := by rw [Int.mul_comm, ← Int.natCast_mul, hs]; rfl
      rw [Int.neg_mul, this]; unfold wrap32; omega
    rw [e, Int.add_mul_ediv_right _ _ (by omega), hd]
    generalize a % 4294967296 / p = r at *
    rw [if_pos (by omega), IntKind.wrap_u64, hv]
    exact w_neg r q hlt (by omega)
  · rw [if_neg c] at hv
    have htop2 : ¬ 2147483648 ≤ v := fun h => c (htop.mp h)
    have e : wrap32 (a : Int) = ((a % 4294967296 : Nat) : Int) := by unfold wrap32; omega
    rw [e, hd]
    generalize a % 4294967296 / p = r at *
    rw [if_neg (by omega), IntKind.wrap_u64, hv]
    exact w_small r (by omega)
/-- Both come to this word. -/
def Both (k : Nat) (op : Int) (a b v : Nat) : Prop := v < 18446744073709551616 ∧ alu_Do.f k op (a : Int) (b : Int) = some ((v : Int), true) ∧ vireoref05_Do.f k op (a : Int) (b : Int) = some ((v : Int), true)
theorem flagN (c : Bool) : alu_flag.f c = some ((c.toNat : Nat) : Int) := by cases c <;> rfl
theorem flagR (c : Bool) : vireoref05_flag.f c = some ((c.toNat : Nat) : Int) := by cases c <;> rfl
theorem toNat_lt64 (c : Bool) : c.toNat < 18446744073709551616 := by cases c <;> decide
theorem alu_less_is (a b : Nat) (ha : a < 18446744073709551616) (hb : b < 18446744073709551616) : alu_less.f (a : Int) (b : Int) = some (decide (sI a < sI b)) := by
  unfold alu_less.f
  rw [wrap64_sI a ha, wrap64_sI b hb]
theorem mod64_lt (b : Nat) : b % 64 < 64 := Nat.mod_lt _ (by decide)
theorem mod32_lt (b : Nat) : b % 32 < 32 := Nat.mod_lt _ (by decide)
theorem both_add (a b : Nat) (ha : a < 18446744073709551616) (hb : b < 18446744073709551616) (m : Nat) (hm : 150 ≤ m) (op : Int) (hop : op = 31 ∨ op = 22) : Both (m + 20) op a b ((a + b) % 18446744073709551616) := by
  have e1 : alu_Do.f (m + 20) op (a : Int) (b : Int) = some (IntKind.u64.wrap ((a : Int) + b), true) := by rcases hop with rfl | rfl <;> rfl
  have e2 : vireoref05_Do.f (m + 20) op (a : Int) (b : Int) = some (IntKind.u64.wrap ((a : Int) + b), true) := by rcases hop with rfl | rfl <;> rfl
  have e : IntKind.u64.wrap ((a : Int) + b) = (((a + b) % 18446744073709551616 : Nat) : Int) := by rw [IntKind.wrap_u64]; omega
  exact ⟨by omega, by rw [e1, e], by rw [e2, e]⟩
theorem both_sub (a b : Nat) (ha : a < 18446744073709551616) (hb : b < 18446744073709551616) (m : Nat) (hm : 150 ≤ m) : Both (m + 20) 32 a b ((a + (18446744073709551616 - b)) % 18446744073709551616) := by
  have e1 : alu_Do.f (m + 20) 32 (a : Int) (b : Int) = some (IntKind.u64.wrap ((a : Int) - b), true) := rfl
  have e2 : vireoref05_Do.f (m + 20) 32 (a : Int) (b : Int) = some (IntKind.u64.wrap ((IntKind.u64.wrap ((a : Int) + (Go.bits .xor .u64 18446744073709551615 (b : Int)))) + 1), true) := rfl
  refine ⟨by omega, ?_, ?_⟩
  · rw [e1, IntKind.wrap_u64]; congr 2; omega
  · rw [e2, not_nat b hb, IntKind.wrap_u64, IntKind.wrap_u64]; congr 2; omega
theorem both_sll (a b : Nat) (ha : a < 18446744073709551616) (hb : b < 18446744073709551616) (m : Nat) (hm : 150 ≤ m) (op : Int) (hop : op = 33 ∨ op = 28) : Both (m + 20) op a b (a * 2 ^ (b % 64) % 18446744073709551616) := by
  have e1 : alu_Do.f (m + 20) op (a : Int) (b : Int) = (if 0 ≤ (Go.bits .and .u64 (b : Int) 63) then (some (shl .u64 (a : Int) (Go.bits .and .u64 (b : Int) 63), true)) else none) := by rcases hop with rfl | rfl <;> rfl
  have e2 : vireoref05_Do.f (m + 20) op (a : Int) (b : Int) = (vireoref05_left.f (m + 18) (a : Int) (wrap64 (Int.tmod (b : Int) 64)) 64).bind fun t => some (t, true) := by rcases hop with rfl | rfl <;> rfl
  have hl := mod64_lt b
  refine ⟨Nat.mod_lt _ (by decide), ?_, ?_⟩
  · rw [e1, and63 b hb, if_pos (by omega), shl_nat a _ (by omega)]
  · have h := vireoref05_left_is a (b % 64) 64 ha (by omega) hl (m + 18) (by omega)
    rw [two64] at h
    rw [e2, wt64]
    exact (congrArg (fun o => Option.bind o _) h)
theorem both_srl (a b : Nat) (ha : a < 18446744073709551616) (hb : b < 18446744073709551616) (m : Nat) (hm : 150 ≤ m) (op : Int) (hop : op = 37 ∨ op = 29) : Both (m + 20) op a b (a / 2 ^ (b % 64)) := by
  have e1 : alu_Do.f (m + 20) op (a : Int) (b : Int) = (if 0 ≤ (Go.bits .and .u64 (b : Int) 63) then (some (shr .u64 (a : Int) (Go.bits .and .u64 (b : Int) 63), true)) else none) := by rcases hop with rfl | rfl <;> rfl
  have e2 : vireoref05_Do.f (m + 20) op (a : Int) (b : Int) = (vireoref05_right.f (m + 17) (a : Int) (wrap64 (Int.tmod (b : Int) 64)) 64 false).bind fun t => some (t, true) := by rcases hop with rfl | rfl <;> rfl
  have hl := mod64_lt b
  refine ⟨Nat.lt_of_le_of_lt (Nat.div_le_self _ _) ha, ?_, ?_⟩
  · rw [e1, and63 b hb, if_pos (by omega), shr_nat a _ (by omega)]
  · have h := vireoref05_right_u a (b % 64) 64 ha (by omega) hl (m + 17) (by omega)
    rw [two64, Nat.mod_eq_of_lt ha] at h
    rw [e2, wt64]
    exact (congrArg (fun o => Option.bind o _) h)
theorem both_sra (a b : Nat) (ha : a < 18446744073709551616) (hb : b < 18446744073709551616) (m : Nat) (hm : 150 ≤ m) (op : Int) (hop : op = 38 ∨ op = 30) : Both (m + 20) op a b (sarW a (b % 64) 64) := by
  have e1 : alu_Do.f (m + 20) op (a : Int) (b : Int) = (if 0 ≤ (Go.bits .and .u64 (b : Int) 63) then (some (IntKind.u64.wrap (shr .i64 (wrap64 (a : Int)) (Go.bits .and .u64 (b : Int) 63)), true)) else none) := by rcases hop with rfl | rfl <;> rfl
  have e2 : vireoref05_Do.f (m + 20) op (a : Int) (b : Int) = (vireoref05_right.f (m + 16) (a : Int) (wrap64 (Int.tmod (b : Int) 64)) 64 true).bind fun t => some (t, true) := by rcases hop with rfl | rfl <;> rfl
  have hl := mod64_lt b
  have hv := sarW_lt a (b % 64) 64 (by omega)
  rw [two64] at hv
  refine ⟨hv, ?_, ?_⟩
  · rw [e1, and63 b hb, if_pos (by omega), wrap64_sI a ha, sra64 a _ ha hl]
  · have h := vireoref05_right_s a (b % 64) 64 ha (by omega) hl (m + 16) (by omega)
    rw [e2, wt64]
    exact (congrArg (fun o => Option.bind o _) h)
theorem both_slt (a b : Nat) (ha : a < 18446744073709551616) (hb : b < 18446744073709551616) (m : Nat) (hm : 150 ≤ m) (op : Int) (hop : op = 34 ∨ op = 23) : Both (m + 20) op a b (decide (sI a < sI b)).toNat := by
  have e1 : alu_Do.f (m + 20) op (a : Int) (b : Int) = (alu_less.f (a : Int) (b : Int)).bind fun t => (alu_flag.f t).bind fun t => some (t, true) := by rcases hop with rfl | rfl <;> rfl
  have e2 : vireoref05_Do.f (m + 20) op (a : Int) (b : Int) = (vireoref05_Less.f (m + 15) (a : Int) (b : Int)).bind fun t => (vireoref05_flag.f t).bind fun t => some (t, true) := by rcases hop with rfl | rfl <;> rfl
  refine ⟨toNat_lt64 _, ?_, ?_⟩
  · rw [e1, alu_less_is a b ha hb, Option.bind_some, flagN, Option.bind_some]
  · rw [e2, vireoref05_Less_is a b ha hb _ (by omega), Option.bind_some, flagR, Option.bind_some]
theorem both_sltu (a b : Nat) (ha : a < 18446744073709551616) (hb : b < 18446744073709551616) (m : Nat) (hm : 150 ≤ m) (op : Int) (hop : op = 35 ∨ op = 24) : Both (m + 20) op a b (decide (a < b)).toNat := by
  have e1 : alu_Do.f (m + 20) op (a : Int) (b : Int) = (alu_flag.f (decide ((a : Int) < (b : Int)))).bind fun t => some (t, true) := by rcases hop with rfl | rfl <;> rfl
  have e2 : vireoref05_Do.f (m + 20) op (a : Int) (b : Int) = (vireoref05_flag.f (decide ((a : Int) < (b : Int)))).bind fun t => some (t, true) := by rcases hop with rfl | rfl <;> rfl
  have e : decide ((a : Int) < (b : Int)) = decide (a < b) := decide_eq_decide.mpr (by omega)
  exact ⟨toNat_lt64 _, by rw [e1, e, flagN, Option.bind_some], by rw [e2, e, flagR, Option.bind_some]⟩
theorem both_and (a b : Nat) (ha : a < 18446744073709551616) (hb : b < 18446744073709551616) (m : Nat) (hm : 150 ≤ m) (op : Int) (hop : op = 40 ∨ op = 27) : Both (m + 20) op a b (a &&& b) := by
  have e1 : alu_Do.f (m + 20) op (a : Int) (b : Int) = some (Go.bits .and .u64 (a : Int) (b : Int), true) := by rcases hop with rfl | rfl <;> rfl
  have e2 : vireoref05_Do.f (m + 20) op (a : Int) (b : Int) = (vireoref05_bitwise.f (m + 13) (a : Int) (b : Int) 0).bind fun t => some (t, true) := by rcases hop with rfl | rfl <;> rfl
  exact ⟨and_lt ha, by rw [e1, and_nat a b ha hb], by rw [e2, vireoref05_bitwise_is a b ha hb 0 _ (by omega)]; rfl⟩
theorem both_or (a b : Nat) (ha : a < 18446744073709551616) (hb : b < 18446744073709551616) (m : Nat) (hm : 150 ≤ m) (op : Int) (hop : op = 39 ∨ op = 26) : Both (m + 20) op a b (a ||| b) := by
  have e1 : alu_Do.f (m + 20) op (a : Int) (b : Int) = some (Go.bits .or .u64 (a : Int) (b : Int), true) := by rcases hop with rfl | rfl <;> rfl
  have e2 : vireoref05_Do.f (m + 20) op (a : Int) (b : Int) = (vireoref05_bitwise.f (m + 12) (a : Int) (b : Int) 1).bind fun t => some (t, true) := by rcases hop with rfl | rfl <;> rfl
  exact ⟨or_lt ha hb, by rw [e1, or_nat a b ha hb], by rw [e2, vireoref05_bitwise_is a b ha hb 1 _ (by omega)]; rfl⟩
theorem both_xor (a b : Nat) (ha : a < 18446744073709551616) (hb : b < 18446744073709551616) (m : Nat) (hm : 150 ≤ m) (op : Int) (hop : op = 36 ∨ op = 25) : Both (m + 20) op a b (a ^^^ b) := by
  have e1 : alu_Do.f (m + 20) op (a : Int) (b : Int) = some (Go.bits .xor .u64 (a : Int) (b : Int), true) := by rcases hop with rfl | rfl <;> rfl
  have e2 : vireoref05_Do.f (m + 20) op (a : Int) (b : Int) = (vireoref05_bitwise.f (m + 11) (a : Int) (b : Int) 2).bind fun t => some (t, true) := by rcases hop with rfl | rfl <;> rfl
  exact ⟨xor_lt ha hb, by rw [e1, xor_nat a b ha hb], by rw [e2, vireoref05_bitwise_is a b ha hb 2 _ (by omega)]; rfl⟩
theorem both_addw (a b : Nat) (ha : a < 18446744073709551616) (hb : b < 18446744073709551616) (m : Nat) (hm : 150 ≤ m) (op : Int) (hop : op = 45 ∨ op = 41) : Both (m + 20) op a b (sextW (a + b) 32) := by
  have e1 : alu_Do.f (m + 20) op (a : Int) (b : Int) = (word_Sext32.f (IntKind.u64.wrap ((a : Int) + b))).bind fun t => some (t, true) := by rcases hop with rfl | rfl <;> rfl
  have e2 : vireoref05_Do.f (m + 20) op (a : Int) (b : Int) = (vireoref01_Sext.f (m + 10) (Int.tmod (IntKind.u64.wrap ((Int.tmod (a : Int) 4294967296) + (Int.tmod (b : Int) 4294967296))) 4294967296) 32).bind fun t => some (t, true) := by rcases hop with rfl | rfl <;> rfl
  refine ⟨sext32_lt _, ?_, ?_⟩
  · have e : IntKind.u64.wrap ((a : Int) + b) = (((a + b) % 18446744073709551616 : Nat) : Int) := by rw [IntKind.wrap_u64]; omega
    rw [e1, e, word_Sext32_is _ (by omega), Option.bind_some, sext32_low (x := (a + b) % 18446744073709551616) (y := a + b) (by omega)]
  · have e : IntKind.u64.wrap (((a % 4294967296 : Nat) : Int) + ((b % 4294967296 : Nat) : Int)) = ((a % 4294967296 + b % 4294967296 : Nat) : Int) := by rw [IntKind.wrap_u64]; omega
    rw [e2, tmod32, tmod32, e, tmod32, vireoref01_Sext_is _ (by omega) 32 _ (by omega), Option.bind_some, sext32_low (x := (a % 4294967296 + b % 4294967296) % 4294967296) (y := a + b) (by omega)]
theorem both_subw (a b : Nat) (ha : a < 18446744073709551616) (hb : b < 18446744073709551616) (m : Nat) (hm : 150 ≤ m) : Both (m + 20) 46 a b (sextW (a + (18446744073709551616 - b)) 32) := by
  have e1 : alu_Do.f (m + 20) 46 (a : Int) (b : Int) = (word_Sext32.f (IntKind.u64.wrap ((a : Int) - b))).bind fun t => some (t, true) := rfl
  have e2 : vireoref05_Do.f (m + 20) 46 (a : Int) (b : Int) = (vireoref01_Sext.f (m + 10) (Int.tmod (IntKind.u64.wrap ((IntKind.u64.wrap ((Int.tmod (a : Int) 4294967296) + 4294967296)) - (Int.tmod (b : Int) 4294967296))) 4294967296) 32).bind fun t => some (t, true) := rfl
  refine ⟨sext32_lt _, ?_, ?_⟩
  · have e : IntKind.u64.wrap ((a : Int) - b) = (((a + (18446744073709551616 - b)) % 18446744073709551616 : Nat) : Int) := by rw [IntKind.wrap_u64]; omega
    rw [e1, e, word_Sext32_is _ (by omega), Option.bind_some, sext32_low (x := (a + (18446744073709551616 - b)) % 18446744073709551616) (y := a + (18446744073709551616 - b)) (by omega)]
  · have e : IntKind.u64.wrap (IntKind.u64.wrap (((a % 4294967296 : Nat) : Int) + 4294967296) - ((b % 4294967296 : Nat) : Int)) = ((a % 4294967296 + 4294967296 - b % 4294967296 : Nat) : Int) := by rw [IntKind.wrap_u64, IntKind.wrap_u64]; omega
    rw [e2, tmod32, tmod32, e, tmod32, vireoref01_Sext_is _ (by omega) 32 _ (by omega), Option.bind_some, sext32_low (x := (a % 4294967296 + 4294967296 - b % 4294967296) % 4294967296) (y := a + (18446744073709551616 - b)) (by omega)]
theorem mod_mul_32 (a n : Nat) : a * 2 ^ n % 4294967296 % 4294967296 = a * 2 ^ n % 18446744073709551616 % 4294967296 := by
  generalize a * 2 ^ n = x
  omega
theorem both_sllw (a b : Nat) (ha : a < 18446744073709551616) (hb : b < 18446744073709551616) (m : Nat) (hm : 150 ≤ m) (op : Int) (hop : op = 47 ∨ op = 42) : Both (m + 20) op a b (sextW (a * 2 ^ (b % 32) % 4294967296) 32) := by
  have e1 : alu_Do.f (m + 20) op (a : Int) (b : Int) = (if 0 ≤ (Go.bits .and .u64 (b : Int) 31) then ((word_Sext32.f (shl .u64 (a : Int) (Go.bits .and .u64 (b : Int) 31))).bind fun t => some (t, true)) else none).bind fun p => some (p.1, p.2) := by rcases hop with rfl | rfl <;> rfl
  have e2 : vireoref05_Do.f (m + 20) op (a : Int) (b : Int) = (vireoref05_left.f (m + 9) (a : Int) (wrap64 (Int.tmod (b : Int) 32)) 32).bind fun t => (vireoref01_Sext.f (m + 9) t 32).bind fun t => some (t, true) := by rcases hop with rfl | rfl <;> rfl
  have hl := mod32_lt b
  refine ⟨sext32_lt _, ?_, ?_⟩
  · rw [e1, and31 b hb, if_pos (by omega), shl_nat a _ (by omega), word_Sext32_is _ (by omega), Option.bind_some, Option.bind_some, sext32_low (mod_mul_32 a (b % 32))]
  · have h := vireoref05_left_is a (b % 32) 32 ha (by omega) hl (m + 9) (by omega)
    rw [show (2 : Nat) ^ 32 = 4294967296 from rfl] at h
    rw [e2, wt32, show (32 : Int) = ((32 : Nat) : Int) from rfl, h, Option.bind_some]
    exact congrArg (fun o => Option.bind o _) (vireoref01_Sext_is (a * 2 ^ (b % 32) % 4294967296) (by omega) 32 (m + 9) (by omega))
theorem both_srlw (a b : Nat) (ha : a < 18446744073709551616) (hb : b < 18446744073709551616) (m : Nat) (hm : 150 ≤ m) (op : Int) (hop : op = 48 ∨ op = 43) : Both (m + 20) op a b (sextW (a % 4294967296 / 2 ^ (b % 32)) 32) := by
  have e1 : alu_Do.f (m + 20) op (a : Int) (b : Int) = (if 0 ≤ (Go.bits .and .u64 (b : Int) 31) then ((word_Sext32.f (IntKind.u64.wrap (shr .u32 ((a : Int) % 4294967296) (Go.bits .and .u64 (b : Int) 31)))).bind fun t => some (t, true)) else none).bind fun p => some (p.1, p.2) := by rcases hop with rfl | rfl <;> rfl
  have e2 : vireoref05_Do.f (m + 20) op (a : Int) (b : Int) = (vireoref05_right.f (m + 8) (a : Int) (wrap64 (Int.tmod (b : Int) 32)) 32 false).bind fun t => (vireoref01_Sext.f (m + 8) t 32).bind fun t => some (t, true) := by rcases hop with rfl | rfl <;> rfl
  have hl := mod32_lt b
  have hle : a % 4294967296 / 2 ^ (b % 32) ≤ a % 4294967296 := Nat.div_le_self _ _
  have hs : shr .u32 ((a : Int) % 4294967296) ((b % 32 : Nat) : Int) = ((a % 4294967296 / 2 ^ (b % 32) : Nat) : Int) := by
    unfold shr
    rw [Int.toNat_natCast, Nat.min_eq_left (show b % 32 ≤ IntKind.u32.bits by show b % 32 ≤ 32; omega)]
    simp
  refine ⟨sext32_lt _, ?_, ?_⟩
  · rw [e1, and31 b hb, if_pos (by omega), hs, u64_nat _ (by omega), word_Sext32_is _ (by omega), Option.bind_some, Option.bind_some]
  · have h := vireoref05_right_u a (b % 32) 32 ha (by omega) hl (m + 8) (by omega)
    rw [show (2 : Nat) ^ 32 = 4294967296 from rfl] at h
    rw [e2, wt32, show (32 : Int) = ((32 : Nat) : Int) from rfl, h, Option.bind_some]
    exact congrArg (fun o => Option.bind o _) (vireoref01_Sext_is (a % 4294967296 / 2 ^ (b % 32)) (by omega) 32 (m + 8) (by omega))
theorem both_sraw (a b : Nat) (ha : a < 18446744073709551616) (hb : b < 18446744073709551616) (m : Nat) (hm : 150 ≤ m) (op : Int) (hop : op = 49 ∨ op = 44) : Both (m + 20) op a b (sextW (sarW a (b % 32) 32) 32) := by
  have e1 : alu_Do.f (m + 20) op (a : Int) (b : Int) = (if 0 ≤ (Go.bits .and .u64 (b : Int) 31) then (some (IntKind.u64.wrap (wrap64 (shr .i32 (wrap32 (a : Int)) (Go.bits .and .u64 (b : Int) 31))), true)) else none).bind fun p => some (p.1, p.2) := by rcases hop with rfl | rfl <;> rfl
  have e2 : vireoref05_Do.f (m + 20) op (a : Int) (b : Int) = (vireoref05_right.f (m + 7) (a : Int) (wrap64 (Int.tmod (b : Int) 32)) 32 true).bind fun t => (vireoref01_Sext.f (m + 7) t 32).bind fun t => some (t, true) := by rcases hop with rfl | rfl <;> rfl
  have hl := mod32_lt b
  have hv := sarW_lt a (b % 32) 32 (by omega)
  rw [show (2 : Nat) ^ 32 = 4294967296 from rfl] at hv
  refine ⟨sext32_lt _, ?_, ?_⟩
  · rw [e1, and31 b hb, if_pos (by omega), sra32 a _ ha hl, Option.bind_some]
  · have h := vireoref05_right_s a (b % 32) 32 ha (by omega) hl (m + 7) (by omega)
    rw [e2, wt32, show (32 : Int) = ((32 : Nat) : Int) from rfl, h, Option.bind_some]
    exact congrArg (fun o => Option.bind o _) (vireoref01_Sext_is (sarW a (b % 32) 32) (by omega) 32 (m + 7) (by omega))
end Go.Proofs.Ytijckgnhkmgpnaa.Pure
