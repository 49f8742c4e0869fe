import Derived.Test.YtidcjbloidbpdaaPArrx1
import Derived.Test.YtidcjbloidbpdaaPArrx2
import Derived.Test.YtidcjbloidbpdaaPArrx3
import Derived.Test.YtidcjbloidbpdaaPArrx5
import Derived.Test.YtidcjbloidbpdaaPArrx6
import Derived.Test.YtidcjbloidbpdaaPArrx7
import Derived.Test.YtidcjbloidbpdaaPArrx8
import Derived.OpenShut
import Derived.Laws.BitsAllLaws
import Derived.Test.YtidcjbloidbpdaaVw
namespace Go.Proofs.Ytidcjbloidbpdaa.Pure
open Go.RowKit Go.Proofs.Ytidcjbloidbpdaa.PArr Go.Proofs.YtidcjbloidbpdaaW.PrintWords Go.Proofs.YtidcjbloidbpdaaW.PrintLast
open Go.Proofs.Ytidcjbloidbpdaa.Vw
set_option linter.unusedVariables false
set_option linter.unusedSimpArgs false

theorem u64_nat (n : Nat) (h : n < 18446744073709551616) : IntKind.u64.wrap (n : Int) = (n : Int) := by rw [IntKind.wrap_u64]; omega
theorem u64_id (n : Int) (h0 : 0 ≤ n) (h : n < 18446744073709551616) : IntKind.u64.wrap n = n := by rw [IntKind.wrap_u64]; omega
theorem w64_id (n : Int) (h0 : -9223372036854775808 ≤ n) (h : n < 9223372036854775808) : wrap64 n = n := by unfold wrap64; omega
theorem w64_nat (n : Nat) (h : n < 9223372036854775808) : wrap64 (n : Int) = (n : Int) := w64_id _ (by omega) (by omega)
theorem tdiv_nat (a b : Nat) : Int.tdiv (a : Int) (b : Int) = ((a / b : Nat) : Int) := by rw [Int.tdiv_eq_ediv_of_nonneg (by omega)]; simp
theorem tmod_nat (a b : Nat) : Int.tmod (a : Int) (b : Int) = ((a % b : Nat) : Int) := by rw [Int.tmod_eq_emod_of_nonneg (by omega)]; simp
theorem u64_of_wf {n : Int} (h : (Lit.int .u64 n).wf = true) : ∃ x : Nat, n = (x : Int) ∧ x < 18446744073709551616 := by
  have := bounds_u64 h
  exact ⟨n.toNat, by omega, by omega⟩
theorem i64_of_wf {n : Int} (h : (Lit.int .i64 n).wf = true) : -9223372036854775808 ≤ n ∧ n ≤ 9223372036854775807 := bounds_i64 h
theorem rd_bl (f : Nat → Bool) (n i : Nat) (h : i < n) : rd (bl f n) (i : Int) = bi (f i) := by
  unfold rd
  rw [Int.toNat_natCast]
  exact bl_get f n i h
theorem two64 : (2 : Nat) ^ 64 = 18446744073709551616 := by decide
theorem and_nat (a b : Nat) (ha : a < 18446744073709551616) (hb : b < 18446744073709551616) : Go.bits .and .u64 (a : Int) (b : Int) = ((a &&& b : Nat) : Int) := u64_and_nat a b ha hb
theorem or_nat (a b : Nat) (ha : a < 18446744073709551616) (hb : b < 18446744073709551616) : Go.bits .or .u64 (a : Int) (b : Int) = ((a ||| b : Nat) : Int) := u64_or_nat a b ha hb
theorem xor_nat (a b : Nat) (ha : a < 18446744073709551616) (hb : b < 18446744073709551616) : Go.bits .xor .u64 (a : Int) (b : Int) = ((a ^^^ b : Nat) : Int) := u64_xor_nat a b ha hb
theorem andNot_nat (a b : Nat) (ha : a < 18446744073709551616) (hb : b < 18446744073709551616) : Go.bits .andNot .u64 (a : Int) (b : Int) = ((a &&& (18446744073709551615 - b) : Nat) : Int) := u64_andNot_nat a b ha hb
theorem and_lt {a b : Nat} (ha : a < 18446744073709551616) : a &&& b < 18446744073709551616 := Nat.lt_of_le_of_lt Nat.and_le_left ha
theorem or_lt {a b : Nat} (ha : a < 18446744073709551616) (hb : b < 18446744073709551616) : a ||| b < 18446744073709551616 := by
  have := Nat.or_lt_two_pow (n := 64) (x := a) (y := b) (by rw [two64]; exact ha) (by rw [two64]; exact hb)
  rw [two64] at this; exact this
theorem xor_lt {a b : Nat} (ha : a < 18446744073709551616) (hb : b < 18446744073709551616) : a ^^^ b < 18446744073709551616 := by
  have := Nat.xor_lt_two_pow (n := 64) (x := a) (y := b) (by rw [two64]; exact ha) (by rw [two64]; exact hb)
  rw [two64] at this; exact this
theorem not_nat (b : Nat) (hb : b < 18446744073709551616) : Go.bits .xor .u64 18446744073709551615 (b : Int) = ((18446744073709551615 - b : Nat) : Int) := by
  have h := xor_nat 18446744073709551615 b (by omega) hb
  have e : (18446744073709551615 : Nat) ^^^ b = 18446744073709551615 - b := by
    apply Nat.eq_of_testBit_eq
    intro i
    rw [Nat.testBit_xor]
    have e1 : (18446744073709551615 : Nat) = 2 ^ 64 - 1 := by decide
    have e2 : (18446744073709551615 : Nat) - b = 2 ^ 64 - (b + 1) := by rw [two64]; omega
    rw [e2, Nat.testBit_two_pow_sub_succ (by rw [two64]; exact hb), e1, Nat.testBit_two_pow_sub_one]
    by_cases hi : i < 64
    · simp [hi]
    · have : b < 2 ^ i := Nat.lt_of_lt_of_le hb (by rw [← two64]; exact Nat.pow_le_pow_right (by decide) (by omega))
      simp [hi, Nat.testBit_lt_two_pow this]
  rw [e] at h
  exact h
theorem tb_not (b i : Nat) (hb : b < 18446744073709551616) : (18446744073709551615 - b).testBit i = (decide (i < 64) && !b.testBit i) := by
  have e2 : (18446744073709551615 : Nat) - b = 2 ^ 64 - (b + 1) := by rw [two64]; omega
  rw [e2, Nat.testBit_two_pow_sub_succ (by rw [two64]; exact hb)]
theorem eq64 {x y : Nat} (hx : x < 18446744073709551616) (hy : y < 18446744073709551616) (h : ∀ i, i < 64 → x.testBit i = y.testBit i) : x = y :=
  eq_of_bits (n := 64) (by rw [two64]; exact hx) (by rw [two64]; exact hy) h
theorem ob64 {x : Nat} (h : x < 18446744073709551616) : ob x.testBit 64 = x := ob_testBit (by rw [two64]; exact h)
theorem ob64_lt (f : Nat → Bool) : ob f 64 < 18446744073709551616 := by have := ob_lt f 64; rw [two64] at this; exact this
theorem shr_nat (x i : Nat) (hi : i ≤ 64) : shr .u64 (x : Int) (i : Int) = ((x / 2 ^ i : Nat) : Int) := by
  unfold shr
  rw [Int.toNat_natCast, Nat.min_eq_left (by simpa [IntKind.bits] using hi)]
  simp
theorem shl_nat (x i : Nat) (hi : i ≤ 64) : shl .u64 (x : Int) (i : Int) = ((x * 2 ^ i % 18446744073709551616 : Nat) : Int) := by
  unfold shl
  rw [Int.toNat_natCast, Nat.min_eq_left (by simpa [IntKind.bits] using hi), IntKind.wrap_u64]
  simp
theorem tb_shl (x s i : Nat) : (x * 2 ^ s % 18446744073709551616).testBit i = (decide (i < 64) && (decide (s ≤ i) && x.testBit (i - s))) := by
  rw [← two64, Nat.testBit_mod_two_pow, Nat.testBit_mul_two_pow]
theorem tb_shr (x s i : Nat) : (x / 2 ^ s).testBit i = x.testBit (s + i) := by
  rw [Nat.testBit_div_two_pow, Nat.add_comm]
/-- How many bits a number of bits asks for: at most 64. -/
def cnt (n : Int) : Nat := min n.toNat 64
theorem cnt_le (n : Int) : cnt n ≤ 64 := by unfold cnt; omega
theorem mn64 (n : Int) (i : Nat) : ((i : Int) < mn n 64) ↔ i < cnt n := by
  unfold mn cnt
  split <;> omega
def mask (n : Int) : Nat := 2 ^ cnt n - 1
theorem mask_lt (n : Int) : mask n < 18446744073709551616 := by
  unfold mask
  have h1 : 2 ^ cnt n ≤ 2 ^ 64 := Nat.pow_le_pow_right (by decide) (cnt_le n)
  have h2 : 0 < 2 ^ cnt n := Nat.two_pow_pos _
  rw [two64] at h1; omega
theorem tb_mask (n : Int) (i : Nat) : (mask n).testBit i = decide (i < cnt n) := by unfold mask; rw [Nat.testBit_two_pow_sub_one]
def getW (x : Nat) (at_ n : Int) : Nat := if 0 ≤ at_ ∧ at_ ≤ 63 then x / 2 ^ at_.toNat % 2 ^ cnt n else 0
theorem getW_lt {x : Nat} (h : x < 18446744073709551616) (at_ n : Int) : getW x at_ n < 18446744073709551616 := by
  unfold getW
  split
  · have h1 : x / 2 ^ at_.toNat % 2 ^ cnt n ≤ x / 2 ^ at_.toNat := Nat.mod_le _ _
    have h2 : x / 2 ^ at_.toNat ≤ x := Nat.div_le_self _ _
    omega
  · omega
theorem tb_getW (x : Nat) (at_ n : Int) (i : Nat) : (getW x at_ n).testBit i = (decide (0 ≤ at_ ∧ at_ ≤ 63) && (decide (i < cnt n) && x.testBit (at_.toNat + i))) := by
  unfold getW
  split
  · rename_i h
    rw [Nat.testBit_mod_two_pow, tb_shr]
    simp [h]
  · rename_i h
    simp [h]
def sextW (x : Nat) (n : Int) : Nat := if n ≤ 0 then 0 else if 64 ≤ n then x else ob (fun i => x.testBit (if i < n.toNat then i else n.toNat - 1)) 64
def putW (x : Nat) (at_ n : Int) (v : Nat) : Nat := if 0 ≤ at_ ∧ at_ ≤ 63 then ob (fun i => if at_.toNat ≤ i ∧ i < at_.toNat + cnt n then v.testBit (i - at_.toNat) else x.testBit i) 64 else x
theorem sextW_lt {x : Nat} (h : x < 18446744073709551616) (n : Int) : sextW x n < 18446744073709551616 := by
  unfold sextW
  split
  · omega
  · split
    · exact h
    · exact ob64_lt _
theorem putW_lt {x : Nat} (h : x < 18446744073709551616) (at_ n : Int) (v : Nat) : putW x at_ n v < 18446744073709551616 := by
  unfold putW
  split
  · exact ob64_lt _
  · exact h
theorem word_Mask_is (n : Int) : word_Mask.f n = some ((mask n : Nat) : Int) := by
  unfold word_Mask.f mask cnt
  by_cases h0 : n ≤ 0
  · rw [if_pos h0, show n.toNat = 0 by omega]; rfl
  · rw [if_neg h0]
    by_cases h1 : n ≥ 64
    · rw [if_pos h1, show min n.toNat 64 = 64 by omega]; rfl
    · rw [if_neg h1, if_pos (by omega)]
      obtain ⟨m, rfl⟩ := Int.eq_ofNat_of_zero_le (a := n) (by omega)
      have hm : m < 64 := by omega
      have e := shl_nat 1 m (by omega)
      have hp : 2 ^ m < 2 ^ 64 := Nat.pow_lt_pow_right (by decide) hm
      have hp0 : 0 < 2 ^ m := Nat.two_pow_pos _
      rw [two64] at hp
      rw [show ((1 : Int)) = ((1 : Nat) : Int) from rfl, e, Int.toNat_natCast, Nat.one_mul, Nat.mod_eq_of_lt hp, Nat.min_eq_left (by omega), u64_id _ (by omega) (by omega)]
      congr 1
      omega
theorem word_Get_is (x : Nat) (at_ n : Int) (hx : x < 18446744073709551616) : word_Get.f (x : Int) at_ n = some ((getW x at_ n : Nat) : Int) := by
  unfold word_Get.f
  by_cases h0 : at_ < 0
  · rw [if_pos h0]; unfold getW; rw [if_neg (by omega)]; rfl
  · rw [if_neg h0]
    by_cases h1 : at_ > 63
    · rw [if_pos h1]; unfold getW; rw [if_neg (by omega)]; rfl
    · rw [if_neg h1, if_pos (by omega), word_Mask_is]
      simp only [Option.bind_some]
      obtain ⟨a, rfl⟩ := Int.eq_ofNat_of_zero_le (a := at_) (by omega)
      rw [shr_nat x a (by omega), and_nat _ _ (Nat.lt_of_le_of_lt (Nat.div_le_self _ _) hx) (mask_lt n)]
      unfold getW mask
      rw [if_pos (by omega), Nat.and_two_pow_sub_one_eq_mod, Int.toNat_natCast]
theorem getW_one (x : Nat) (at_ : Int) : getW x at_ 1 = if (decide (0 ≤ at_ ∧ at_ ≤ 63) && x.testBit at_.toNat) = true then 1 else 0 := by
  unfold getW
  by_cases h : 0 ≤ at_ ∧ at_ ≤ 63
  · rw [if_pos h, show cnt 1 = 1 from rfl]
    have := bit_at x at_.toNat
    have h2 := Nat.mod_two_eq_zero_or_one (x / 2 ^ at_.toNat)
    simp only [Nat.pow_one]
    rw [Nat.testBit_eq_decide_div_mod_eq]
    rcases h2 with e | e <;> simp [h, e]
  · rw [if_neg h]; simp [h]
theorem word_Bit_is (x : Nat) (at_ : Int) (hx : x < 18446744073709551616) : word_Bit.f (x : Int) at_ = some (decide (0 ≤ at_ ∧ at_ ≤ 63) && x.testBit at_.toNat) := by
  unfold word_Bit.f
  rw [word_Get_is x at_ 1 hx, getW_one]
  simp only [Option.bind_some]
  split <;> rename_i h
  · rw [h]; rfl
  · rw [Bool.not_eq_true] at h; rw [h]; rfl
theorem word_Sext_is (k : Nat) (hk : 0 < k) (x : Nat) (n : Int) (hx : x < 18446744073709551616) (hn : -9223372036854775808 ≤ n ∧ n ≤ 9223372036854775807) : word_Sext.f k (x : Int) n = some ((sextW x n : Nat) : Int) := by
  obtain ⟨k, rfl⟩ : ∃ m, k = m + 1 := ⟨k - 1, by omega⟩
  have hm := mask_lt n
  have ham : Go.bits .and .u64 (x : Int) ((mask n : Nat) : Int) = ((x &&& mask n : Nat) : Int) := and_nat _ _ hx hm
  have hand : x &&& mask n = x % 2 ^ cnt n := by unfold mask; rw [Nat.and_two_pow_sub_one_eq_mod]
  unfold word_Sext.f
  by_cases h0 : n ≤ 0
  · rw [if_pos h0]
    simp only [word_Sext.j0, if_true]
    rw [word_Mask_is]
    simp only [Option.bind_some]
    rw [ham, hand]
    unfold sextW
    rw [if_pos h0, show cnt n = 0 by unfold cnt; omega]
    simp [Nat.mod_one]
  · rw [if_neg h0]
    by_cases h1 : n ≥ 64
    · simp only [word_Sext.j0, h1, decide_true, if_true]
      rw [word_Mask_is]
      simp only [Option.bind_some]
      rw [ham, hand]
      unfold sextW
      rw [if_neg h0, if_pos h1, show cnt n = 64 by unfold cnt; omega, two64, Nat.mod_eq_of_lt hx]
    · simp only [word_Sext.j0, h1, decide_false, Bool.false_eq_true, if_false]
      rw [word_Mask_is]
      simp only [Option.bind_some]
      obtain ⟨m, rfl⟩ := Int.eq_ofNat_of_zero_le (a := n) (by omega)
      have hc : cnt (m : Int) = m := by unfold cnt; rw [Int.toNat_natCast]; omega
      rw [ham, hand, w64_id _ (by omega) (by omega), word_Bit_is _ _ (Nat.lt_of_le_of_lt (Nat.mod_le _ _) hx)]
      simp only [Option.bind_some]
      have hlt : x % 2 ^ cnt (m : Int) < 18446744073709551616 := Nat.lt_of_le_of_lt (Nat.mod_le _ _) hx
      have e1 : ((m : Int) - 1).toNat = m - 1 := by omega
      have hb : (decide (0 ≤ (m : Int) - 1 ∧ (m : Int) - 1 ≤ 63) && (x % 2 ^ cnt (m : Int)).testBit ((m : Int) - 1).toNat) = x.testBit (m - 1) := by
        rw [e1, hc, Nat.testBit_mod_two_pow]
        have : 0 ≤ (m : Int) - 1 ∧ (m : Int) - 1 ≤ 63 := by omega
        rw [decide_eq_true this, decide_eq_true (show m - 1 < m by omega)]
        rfl
      rw [hb]
      have es : sextW x (m : Int) = ob (fun i => x.testBit (if i < m then i else m - 1)) 64 := by
        unfold sextW
        rw [if_neg h0, if_neg h1, Int.toNat_natCast]
      rw [es]
      by_cases hs : x.testBit (m - 1) = true
      · rw [if_pos hs, not_nat _ hm, or_nat _ _ hlt (by omega)]
        congr 2
        apply eq64 (or_lt hlt (by omega)) (ob64_lt _)
        intro i hi
        rw [Nat.testBit_or, tb_not _ _ hm, tb_mask, testBit_ob, hc, Nat.testBit_mod_two_pow]
        by_cases h : i < m
        · simp [h, hi]
        · simp [h, hi, hs]
      · rw [if_neg hs]
        congr 2
        apply eq64 hlt (ob64_lt _)
        intro i hi
        rw [testBit_ob, hc, Nat.testBit_mod_two_pow]
        by_cases h : i < m
        · simp [h, hi]
        · simp [h, hi]
          simpa using hs
theorem word_Put_is (x : Nat) (at_ n : Int) (v : Nat) (hx : x < 18446744073709551616) (hv : v < 18446744073709551616) : word_Put.f (x : Int) at_ n (v : Int) = some ((putW x at_ n v : Nat) : Int) := by
  unfold word_Put.f putW
  by_cases h0 : at_ < 0
  · rw [if_pos h0, if_neg (by omega)]
  · rw [if_neg h0]
    by_cases h1 : at_ > 63
    · rw [if_pos h1, if_neg (by omega)]
    · rw [if_neg h1, word_Mask_is]
      simp only [Option.bind_some]
      rw [if_pos (by omega), if_pos (by omega)]
      obtain ⟨a, rfl⟩ := Int.eq_ofNat_of_zero_le (a := at_) (by omega)
      have hM : mask n * 2 ^ a % 18446744073709551616 < 18446744073709551616 := Nat.mod_lt _ (by decide)
      have hV : v * 2 ^ a % 18446744073709551616 < 18446744073709551616 := Nat.mod_lt _ (by decide)
      rw [shl_nat _ a (by omega), shl_nat _ a (by omega), andNot_nat _ _ hx hM, and_nat _ _ hV hM, or_nat _ _ (and_lt hx) (and_lt hV)]
      congr 2
      apply eq64 (or_lt (and_lt hx) (and_lt hV)) (ob64_lt _)
      intro i hi
      rw [Nat.testBit_or, Nat.testBit_and, Nat.testBit_and, tb_not _ _ hM, tb_shl, tb_shl, testBit_ob, tb_mask, Int.toNat_natCast]
      by_cases h2 : a ≤ i
      · by_cases h3 : i - a < cnt n
        · have h4 : i < a + cnt n := by omega
          simp [hi, h2, h3, h4]
        · have h4 : ¬ i < a + cnt n := by omega
          simp [hi, h2, h3, h4]
      · simp [hi, h2]
theorem word_Sext32_is (x : Nat) (hx : x < 18446744073709551616) : word_Sext32.f (x : Int) = some ((sextW x 32 : Nat) : Int) := by
  unfold word_Sext32.f
  have e : sextW x 32 = if x.testBit 31 then x % 4294967296 + 18446744069414584320 else x % 4294967296 := by
    unfold sextW
    rw [if_neg (by omega), if_neg (by omega)]
    show ob (fun i => x.testBit (if i < 32 then i else 31)) 64 = _
    have hlt : x % 4294967296 < 2 ^ 32 := Nat.mod_lt _ (by decide)
    apply eq64 (ob64_lt _)
    · split <;> omega
    · intro i hi
      rw [testBit_ob]
      by_cases hs : x.testBit 31 = true
      · rw [if_pos hs]
        have e3 : x % 4294967296 + 18446744069414584320 = 2 ^ 32 * (2 ^ 32 - 1) + x % 4294967296 := by omega
        rw [e3, Nat.testBit_two_pow_mul_add _ hlt]
        rw [show (4294967296 : Nat) = 2 ^ 32 from rfl, Nat.testBit_mod_two_pow, Nat.testBit_two_pow_sub_one]
        by_cases h : i < 32
        · simp [h, hi]
        · simp [h, hi, hs]; omega
      · rw [if_neg hs, show (4294967296 : Nat) = 2 ^ 32 from rfl, Nat.testBit_mod_two_pow]
        by_cases h : i < 32
        · simp [h, hi]
        · simp [h, hi]; simpa using hs
  have ew : IntKind.u64.wrap (wrap64 (wrap32 (x : Int))) = if x / 2147483648 % 2 = 1 then ((x % 4294967296 + 18446744069414584320 : Nat) : Int) else ((x % 4294967296 : Nat) : Int) := by
    rw [IntKind.wrap_u64]
    unfold wrap32 wrap64
    split <;> omega
  rw [ew, e, Nat.testBit_eq_decide_div_mod_eq]
  by_cases hs : x / 2147483648 % 2 = 1
  · rw [if_pos hs, if_pos (by rw [decide_eq_true_iff]; exact hs)]
  · rw [if_neg hs, if_neg (by rw [decide_eq_true_iff]; exact hs)]
theorem Bits_l (x : Nat) (hx : x < 18446744073709551616) (d : Nat) : ∀ (k i : Nat), i + d = 64 → d < k → vireoref01_Bits.l0 k ((x / 2 ^ i : Nat) : Int) (bl x.testBit i) (i : Int) = some (bl x.testBit 64) := by
  induction d with
  | zero =>
    intro k i hi hk
    obtain ⟨k, rfl⟩ : ∃ m, k = m + 1 := ⟨k - 1, by omega⟩
    obtain rfl : i = 64 := by omega
    simp only [vireoref01_Bits.l0]
    rw [if_neg (by omega)]
  | succ d ih =>
    intro k i hi hk
    obtain ⟨k, rfl⟩ : ∃ m, k = m + 1 := ⟨k - 1, by omega⟩
    simp only [vireoref01_Bits.l0]
    have hl : x / 2 ^ i ≤ x := Nat.div_le_self _ _
    rw [if_pos (by omega), if_pos (by rw [bl_length]; omega)]
    have e1 : IntKind.u64.wrap (Int.tdiv ((x / 2 ^ i : Nat) : Int) 2) = ((x / 2 ^ (i + 1) : Nat) : Int) := by
      rw [show (2 : Int) = ((2 : Nat) : Int) from rfl, tdiv_nat, u64_nat _ (by omega), div_next]
    have e2 : wrap64 (Int.tmod ((x / 2 ^ i : Nat) : Int) 2) = bi (x.testBit i) := by
      rw [show (2 : Int) = ((2 : Nat) : Int) from rfl, tmod_nat, w64_id _ (by omega) (by omega), bit_at]
    have e3 : wrap64 ((i : Int) + 1) = ((i + 1 : Nat) : Int) := by rw [w64_id _ (by omega) (by omega)]; rfl
    rw [e1, e2, e3, ← bl_succ]
    exact ih k (i + 1) (by omega) (by omega)
theorem vireoref01_Bits_is (x : Nat) (hx : x < 18446744073709551616) (k : Nat) (hk : 65 ≤ k) : vireoref01_Bits.f k (x : Int) = some (bl x.testBit 64) := by
  unfold vireoref01_Bits.f
  have h := Bits_l x hx 64 k 0 (by omega) (by omega)
  simpa [bl_zero] using h
theorem Word_l (f : Nat → Bool) (n : Nat) (hn : n ≤ 64) (j : Nat) : ∀ (k : Nat), j ≤ n → j < k → vireoref01_Word.l0 k (bl f n) ((ob f n / 2 ^ j : Nat) : Int) ((j : Int) - 1) = some ((ob f n : Nat) : Int) := by
  have hX : ob f n < 18446744073709551616 := by
    have h1 := ob_lt f n
    have h2 : 2 ^ n ≤ 2 ^ 64 := Nat.pow_le_pow_right (by decide) hn
    rw [two64] at h2; omega
  induction j with
  | zero =>
    intro k _ hk
    obtain ⟨k, rfl⟩ : ∃ m, k = m + 1 := ⟨k - 1, by omega⟩
    simp only [vireoref01_Word.l0]
    rw [if_neg (by omega), Nat.pow_zero, Nat.div_one]
  | succ j ih =>
    intro k hj hk
    obtain ⟨k, rfl⟩ : ∃ m, k = m + 1 := ⟨k - 1, by omega⟩
    simp only [vireoref01_Word.l0]
    have ej : (((j + 1 : Nat) : Int) - 1) = (j : Int) := by omega
    rw [ej, if_pos (by omega), if_pos (by omega), if_pos (by rw [bl_length]; omega), rd_bl f n j (by omega)]
    have hb : bi (f j) = ((ob f n / 2 ^ j % 2 : Nat) : Int) := by
      rw [bit_at, testBit_ob]; simp [show j < n by omega]
    have hs := div_step (ob f n) j
    have hl : ob f n / 2 ^ j ≤ ob f n := Nat.div_le_self _ _
    have e1 : IntKind.u64.wrap (IntKind.u64.wrap (((ob f n / 2 ^ (j + 1) : Nat) : Int) * 2) + IntKind.u64.wrap (bi (f j))) = ((ob f n / 2 ^ j : Nat) : Int) := by
      rw [hb, u64_id (((ob f n / 2 ^ (j + 1) : Nat) : Int) * 2) (by omega) (by omega), u64_nat _ (by omega), u64_id _ (by omega) (by omega)]
      omega
    have e2 : wrap64 ((j : Int) - 1) = (j : Int) - 1 := w64_id _ (by omega) (by omega)
    rw [e1, e2]
    exact ih k (by omega) (by omega)
theorem vireoref01_Word_is (f : Nat → Bool) (n : Nat) (hn : n ≤ 64) (k : Nat) (hk : 65 ≤ k) : vireoref01_Word.f k (bl f n) = some ((ob f n : Nat) : Int) := by
  unfold vireoref01_Word.f
  have e : (mn ((bl f n).length : Int) 64) - 1 = (n : Int) - 1 := by
    rw [bl_length]; unfold mn; split <;> omega
  have h := Word_l f n hn n k (Nat.le_refl _) (by omega)
  rw [Nat.div_eq_of_lt (ob_lt f n)] at h
  rw [e]
  exact h
theorem ref_Mask_l (n : Int) (d : Nat) : ∀ (k i : Nat), i + d = cnt n → d + 66 ≤ k → vireoref01_Mask.l0 k n (bl (fun _ => true) i) (i : Int) = some ((mask n : Nat) : Int) := by
  have hc := cnt_le n
  induction d with
  | zero =>
    intro k i hi hk
    obtain ⟨k, rfl⟩ : ∃ m, k = m + 1 := ⟨k - 1, by omega⟩
    simp only [vireoref01_Mask.l0]
    rw [if_neg (by rw [mn64]; omega)]
    have hw := vireoref01_Word_is (fun _ => true) i (by omega) k
    by_cases hk' : 65 ≤ k
    · rw [hw hk']
      simp only [Option.bind_some]
      congr 2
      apply eq_of_bits (n := 64) (by have := ob_lt (fun _ => true) i; have h2 : 2 ^ i ≤ 2 ^ 64 := Nat.pow_le_pow_right (by decide) (by omega); omega) (by have := mask_lt n; rw [two64]; exact this)
      intro j hj
      rw [testBit_ob, tb_mask]
      simp
      omega
    · exfalso; omega
  | succ d ih =>
    intro k i hi hk
    obtain ⟨k, rfl⟩ : ∃ m, k = m + 1 := ⟨k - 1, by omega⟩
    simp only [vireoref01_Mask.l0]
    rw [if_pos (by rw [mn64]; omega), if_pos (by rw [bl_length]; omega)]
    have e3 : wrap64 ((i : Int) + 1) = ((i + 1 : Nat) : Int) := w64_nat (i + 1) (by omega)
    rw [e3, show bl (fun _ => true) i ++ [1] = bl (fun _ => true) (i + 1) from (bl_succ _ _).symm]
    exact ih k (i + 1) (by omega) (by omega)
theorem vireoref01_Mask_is (n : Int) (k : Nat) (hk : 130 ≤ k) : vireoref01_Mask.f k n = some ((mask n : Nat) : Int) := by
  unfold vireoref01_Mask.f
  have := cnt_le n
  exact ref_Mask_l n (cnt n) k 0 (by omega) (by omega)
theorem ref_Get_end (x : Nat) (hx : x < 18446744073709551616) (a : Nat) (ha : a ≤ 63) (n : Int) (i k : Nat) (hi : i ≤ 64) (hk : 65 ≤ k) (he : i = cnt n ∨ i ≤ cnt n ∧ a + i = 64) :
    ((vireoref01_Word.f k (bl (fun j => x.testBit (a + j)) i)).bind fun t => some t) = some ((getW x (a : Int) n : Nat) : Int) := by
  rw [vireoref01_Word_is _ i hi k hk]
  simp only [Option.bind_some]
  congr 2
  apply eq_of_bits (n := 64) (by have := ob_lt (fun j => x.testBit (a + j)) i; have h2 : 2 ^ i ≤ 2 ^ 64 := Nat.pow_le_pow_right (by decide) hi; omega) (by have := getW_lt hx (a : Int) n; rw [two64]; exact this)
  intro j hj
  rw [testBit_ob, tb_getW, Int.toNat_natCast]
  have h1 : 0 ≤ (a : Int) ∧ (a : Int) ≤ 63 := by omega
  simp only [h1, and_self, decide_true, Bool.true_and]
  rcases he with rfl | ⟨h2, h3⟩
  · rfl
  · by_cases h4 : j < i
    · have : j < cnt n := by omega
      simp [h4, this]
    · have h5 : x < 2 ^ (a + j) := Nat.lt_of_lt_of_le hx (by rw [← two64]; exact Nat.pow_le_pow_right (by decide) (by omega))
      simp [h4, Nat.testBit_lt_two_pow h5]
theorem ref_Get_l (x : Nat) (hx : x < 18446744073709551616) (a : Nat) (ha : a ≤ 63) (n : Int) (d : Nat) : ∀ (k i : Nat), i + d = 64 → i ≤ cnt n → a + i ≤ 64 → d + 66 ≤ k →
    vireoref01_Get.l0 k (a : Int) n (bl x.testBit 64) (bl (fun j => x.testBit (a + j)) i) (i : Int) = some ((getW x (a : Int) n : Nat) : Int) := by
  have hc := cnt_le n
  induction d with
  | zero =>
    intro k i hi h1 h2 hk
    obtain ⟨k, rfl⟩ : ∃ m, k = m + 1 := ⟨k - 1, by omega⟩
    simp only [vireoref01_Get.l0]
    rw [if_neg (by rw [mn64]; omega)]
    exact ref_Get_end x hx a ha n i k (by omega) (by omega) (by omega)
  | succ d ih =>
    intro k i hi h1 h2 hk
    obtain ⟨k, rfl⟩ : ∃ m, k = m + 1 := ⟨k - 1, by omega⟩
    simp only [vireoref01_Get.l0]
    by_cases h3 : i < cnt n
    · have e1 : wrap64 ((a : Int) + (i : Int)) = ((a + i : Nat) : Int) := w64_nat (a + i) (by omega)
      rw [if_pos (by rw [mn64]; omega), e1]
      by_cases h4 : a + i < 64
      · have e3 : wrap64 ((i : Int) + 1) = ((i + 1 : Nat) : Int) := w64_nat (i + 1) (by omega)
        rw [if_pos (by omega), if_pos (by omega), if_pos (by rw [bl_length]; omega), if_pos (by rw [bl_length]; omega), e3, rd_bl _ 64 (a + i) h4]
        rw [show bl (fun j => x.testBit (a + j)) i ++ [bi (x.testBit (a + i))] = bl (fun j => x.testBit (a + j)) (i + 1) from (bl_succ _ _).symm]
        exact ih k (i + 1) (by omega) (by omega) (by omega) (by omega)
      · rw [if_neg (by omega)]
        exact ref_Get_end x hx a ha n i k (by omega) (by omega) (by omega)
    · rw [if_neg (by rw [mn64]; omega)]
      exact ref_Get_end x hx a ha n i k (by omega) (by omega) (by omega)
theorem vireoref01_Get_is (x : Nat) (hx : x < 18446744073709551616) (at_ n : Int) (k : Nat) (hk : 140 ≤ k) : vireoref01_Get.f k (x : Int) at_ n = some ((getW x at_ n : Nat) : Int) := by
  obtain ⟨k, rfl⟩ : ∃ m, k = m + 1 := ⟨k - 1, by omega⟩
  unfold vireoref01_Get.f
  by_cases h0 : at_ < 0
  · rw [if_pos h0]
    simp only [vireoref01_Get.j0, if_true]
    unfold getW; rw [if_neg (by omega)]; rfl
  · rw [if_neg h0]
    by_cases h1 : at_ > 63
    · simp only [vireoref01_Get.j0, h1, decide_true, if_true]
      unfold getW; rw [if_neg (by omega)]; rfl
    · simp only [vireoref01_Get.j0, h1, decide_false, Bool.false_eq_true, if_false]
      rw [vireoref01_Bits_is x hx k (by omega)]
      simp only [Option.bind_some]
      obtain ⟨a, rfl⟩ := Int.eq_ofNat_of_zero_le (a := at_) (by omega)
      exact ref_Get_l x hx a (by omega) n 64 k 0 (by omega) (by omega) (by omega) (by omega)
theorem ref_Sext_l (x : Nat) (n : Nat) (h0 : 1 ≤ n) (h1 : n ≤ 63) (d : Nat) : ∀ (k i : Nat), i + d = 64 → n ≤ i → d + 66 ≤ k →
    vireoref01_Sext.l0 k (n : Int) (bl (fun j => if n ≤ j ∧ j < i then x.testBit (n - 1) else x.testBit j) 64) (i : Int) = some ((sextW x (n : Int) : Nat) : Int) := by
  induction d with
  | zero =>
    intro k i hi h2 hk
    obtain ⟨k, rfl⟩ : ∃ m, k = m + 1 := ⟨k - 1, by omega⟩
    simp only [vireoref01_Sext.l0]
    rw [if_neg (by omega), vireoref01_Word_is _ 64 (by omega) k (by omega)]
    simp only [Option.bind_some]
    unfold sextW
    rw [if_neg (by omega), if_neg (by omega), Int.toNat_natCast]
    congr 2
    apply ob_congr
    intro j hj
    by_cases h3 : j < n
    · rw [if_neg (by omega), if_pos h3]
    · rw [if_pos (by omega), if_neg h3]
  | succ d ih =>
    intro k i hi h2 hk
    obtain ⟨k, rfl⟩ : ∃ m, k = m + 1 := ⟨k - 1, by omega⟩
    simp only [vireoref01_Sext.l0]
    have e1 : wrap64 ((n : Int) - 1) = ((n - 1 : Nat) : Int) := by rw [w64_id _ (by omega) (by omega)]; omega
    have e3 : wrap64 ((i : Int) + 1) = ((i + 1 : Nat) : Int) := w64_nat (i + 1) (by omega)
    rw [if_pos (by omega), e1, if_pos (by omega), if_pos (by rw [bl_length]; omega), if_pos (by omega), if_pos (by rw [bl_length]; omega), e3, rd_bl _ 64 (n - 1) (by omega), Int.toNat_natCast, bl_set, if_neg (by omega)]
    have e4 : (fun j => if j = i then x.testBit (n - 1) else if n ≤ j ∧ j < i then x.testBit (n - 1) else x.testBit j) = (fun j => if n ≤ j ∧ j < i + 1 then x.testBit (n - 1) else x.testBit j) := by
      funext j
      by_cases h3 : j = i
      · rw [if_pos h3, if_pos (by omega)]
      · rw [if_neg h3]
        by_cases h4 : n ≤ j ∧ j < i
        · rw [if_pos h4, if_pos (by omega)]
        · rw [if_neg h4, if_neg (by omega)]
    rw [e4]
    exact ih k (i + 1) (by omega) (by omega) (by omega)
theorem vireoref01_Sext_is (x : Nat) (hx : x < 18446744073709551616) (n : Int) (k : Nat) (hk : 140 ≤ k) : vireoref01_Sext.f k (x : Int) n = some ((sextW x n : Nat) : Int) := by
  unfold vireoref01_Sext.f
  by_cases h0 : n < 1
  · rw [if_pos h0]; unfold sextW; rw [if_pos (by omega)]; rfl
  · rw [if_neg h0]
    by_cases h1 : n > 63
    · rw [if_pos h1]; unfold sextW; rw [if_neg (by omega), if_pos (by omega)]
    · rw [if_neg h1, vireoref01_Bits_is x hx k (by omega)]
      simp only [Option.bind_some]
      obtain ⟨m, rfl⟩ := Int.eq_ofNat_of_zero_le (a := n) (by omega)
      have h := ref_Sext_l x m (by omega) (by omega) (64 - m) k m (by omega) (by omega) (by omega)
      rw [show (fun j => if m ≤ j ∧ j < m then x.testBit (m - 1) else x.testBit j) = x.testBit from by funext j; rw [if_neg (by omega)]] at h
      exact h
theorem ref_Put_end (x v a : Nat) (ha : a ≤ 63) (n : Int) (i k : Nat) (hk : 65 ≤ k) (he : i = cnt n ∨ i ≤ cnt n ∧ a + i = 64) :
    ((vireoref01_Word.f k (bl (fun j => if a ≤ j ∧ j < a + i then v.testBit (j - a) else x.testBit j) 64)).bind fun t => some t) = some ((putW x (a : Int) n v : Nat) : Int) := by
  rw [vireoref01_Word_is _ 64 (by omega) k hk]
  simp only [Option.bind_some]
  unfold putW
  rw [if_pos (by omega), Int.toNat_natCast]
  congr 2
  apply ob_congr
  intro j hj
  rcases he with rfl | ⟨h2, h3⟩
  · rfl
  · by_cases h4 : a ≤ j
    · rw [if_pos (by omega), if_pos (by omega)]
    · rw [if_neg (by omega), if_neg (by omega)]
theorem ref_Put_l (x v : Nat) (a : Nat) (ha : a ≤ 63) (n : Int) (d : Nat) : ∀ (k i : Nat), i + d = 64 → i ≤ cnt n → a + i ≤ 64 → d + 66 ≤ k →
    vireoref01_Put.l0 k (a : Int) n (bl (fun j => if a ≤ j ∧ j < a + i then v.testBit (j - a) else x.testBit j) 64) (bl v.testBit 64) (i : Int) = some ((putW x (a : Int) n v : Nat) : Int) := by
  have hc := cnt_le n
  induction d with
  | zero =>
    intro k i hi h1 h2 hk
    obtain ⟨k, rfl⟩ : ∃ m, k = m + 1 := ⟨k - 1, by omega⟩
    simp only [vireoref01_Put.l0]
    rw [if_neg (by rw [mn64]; omega)]
    exact ref_Put_end x v a ha n i k (by omega) (by omega)
  | succ d ih =>
    intro k i hi h1 h2 hk
    obtain ⟨k, rfl⟩ : ∃ m, k = m + 1 := ⟨k - 1, by omega⟩
    simp only [vireoref01_Put.l0]
    by_cases h3 : i < cnt n
    · have e1 : wrap64 ((a : Int) + (i : Int)) = ((a + i : Nat) : Int) := w64_nat (a + i) (by omega)
      rw [if_pos (by rw [mn64]; omega), e1]
      by_cases h4 : a + i < 64
      · have e3 : wrap64 ((i : Int) + 1) = ((i + 1 : Nat) : Int) := w64_nat (i + 1) (by omega)
        rw [if_pos (by omega), if_pos (by omega), if_pos (by rw [bl_length]; omega), if_pos (by omega), if_pos (by rw [bl_length]; omega), e3, rd_bl _ 64 i (by omega), Int.toNat_natCast, bl_set]
        have e4 : (fun j => if j = a + i then v.testBit i else if a ≤ j ∧ j < a + i then v.testBit (j - a) else x.testBit j) = (fun j => if a ≤ j ∧ j < a + (i + 1) then v.testBit (j - a) else x.testBit j) := by
          funext j
          by_cases h5 : j = a + i
          · rw [if_pos h5, if_pos (by omega)]; congr 1; omega
          · rw [if_neg h5]
            by_cases h6 : a ≤ j ∧ j < a + i
            · rw [if_pos h6, if_pos (by omega)]
            · rw [if_neg h6, if_neg (by omega)]
        rw [e4]
        exact ih k (i + 1) (by omega) (by omega) (by omega) (by omega)
      · rw [if_neg (by omega)]
        exact ref_Put_end x v a ha n i k (by omega) (by omega)
    · rw [if_neg (by rw [mn64]; omega)]
      exact ref_Put_end x v a ha n i k (by omega) (by omega)
theorem vireoref01_Put_is (x : Nat) (hx : x < 18446744073709551616) (at_ n : Int) (v : Nat) (hv : v < 18446744073709551616) (k : Nat) (hk : 140 ≤ k) : vireoref01_Put.f k (x : Int) at_ n (v : Int) = some ((putW x at_ n v : Nat) : Int) := by
  obtain ⟨k, rfl⟩ : ∃ m, k = m + 1 := ⟨k - 1, by omega⟩
  unfold vireoref01_Put.f
  by_cases h0 : at_ < 0
  · rw [if_pos h0]
    simp only [vireoref01_Put.j0, if_true]
    unfold putW; rw [if_neg (by omega)]
  · rw [if_neg h0]
    by_cases h1 : at_ > 63
    · simp only [vireoref01_Put.j0, h1, decide_true, if_true]
      unfold putW; rw [if_neg (by omega)]
    · simp only [vireoref01_Put.j0, h1, decide_false, Bool.false_eq_true, if_false]
      rw [vireoref01_Bits_is x hx k (by omega)]
      simp only [Option.bind_some]
      rw [vireoref01_Bits_is v hv k (by omega)]
      simp only [Option.bind_some]
      obtain ⟨a, rfl⟩ := Int.eq_ofNat_of_zero_le (a := at_) (by omega)
      have h := ref_Put_l x v a (by omega) n 64 k 0 (by omega) (by omega) (by omega) (by omega)
      rw [show (fun j => if a ≤ j ∧ j < a + 0 then v.testBit (j - a) else x.testBit j) = x.testBit from by funext j; rw [if_neg (by omega)]] at h
      exact h
/-- the value of a digit, or 99 -/
def dv (c : Int) : Int := if 48 ≤ c ∧ c ≤ 57 then c - 48 else if 97 ≤ c ∧ c ≤ 102 then c - 87 else 99
theorem dv_range {c : Int} : 0 ≤ dv c ∧ dv c ≤ 99 := by unfold dv; split <;> (try split) <;> omega
theorem bt_range (s : ByteArray) (i : Int) : 0 ≤ bt s i ∧ bt s i < 256 := by
  unfold bt
  split
  · rename_i h
    have := (s[i.toNat]'h).toNat_lt
    omega
  · omega
/-- the digits of x from place i on, m of them, on top of n; none: no number -/
def run (x : ByteArray) (b : Int) : Nat → Int → Int → Option Int
  | 0, n, _ => some n
  | m + 1, n, i => if dv (bt x i) ≥ b then none else if n * b + dv (bt x i) ≥ 18446744073709551616 then none else run x b m (n * b + dv (bt x i)) (i + 1)
def told : Option Int → Int × Bool
  | some v => (v, true)
  | none => (0, false)
def pz (x : ByteArray) (b : Int) : Int × Bool := if x.size = 0 then (0, false) else told (run x b x.size 0 0)
def p (x : ByteArray) : Int × Bool := if x.size > 2 ∧ (x.extract 0 2).toList = ([48, 120] : List UInt8) then pz (x.extract 2 x.size) 16 else pz x 10
def q (x : ByteArray) : Int × Bool :=
  if x.size ≠ 0 ∧ bt x 0 = 45 then (if (p (x.extract 1 x.size)).2 = true ∧ (p (x.extract 1 x.size)).1 ≤ 9223372036854775808 then (wrap64 (IntKind.u64.wrap (-(p (x.extract 1 x.size)).1)), true) else (0, false))
  else (if (p x).2 = true ∧ (p x).1 ≤ 9223372036854775807 then (wrap64 (p x).1, true) else (0, false))
theorem run_range (x : ByteArray) (b : Int) (hb : 0 ≤ b) : ∀ (m : Nat) (n i : Int), 0 ≤ n → n < 18446744073709551616 → ∀ v, run x b m n i = some v → 0 ≤ v ∧ v < 18446744073709551616
  | 0, n, i, h0, h1, v, h => by simp only [run, Option.some.injEq] at h; omega
  | m + 1, n, i, h0, h1, v, h => by
    simp only [run] at h
    have hd := dv_range (c := bt x i)
    have : 0 ≤ n * b := Int.mul_nonneg h0 hb
    split at h
    · simp at h
    · split at h
      · simp at h
      · exact run_range x b hb m _ _ (by omega) (by omega) v h
theorem pz_range (x : ByteArray) (b : Int) (hb : 0 ≤ b) : 0 ≤ (pz x b).1 ∧ (pz x b).1 < 18446744073709551616 ∧ ((pz x b).2 = false → (pz x b).1 = 0) := by
  unfold pz
  split
  · simp
  · cases h : run x b x.size 0 0 with
    | none => simp [told]
    | some v => have := run_range x b hb x.size 0 0 (by omega) (by omega) v h; simp [told]; omega
theorem p_range (x : ByteArray) : 0 ≤ (p x).1 ∧ (p x).1 < 18446744073709551616 ∧ ((p x).2 = false → (p x).1 = 0) := by
  unfold p
  split
  · exact pz_range _ _ (by omega)
  · exact pz_range _ _ (by omega)
theorem q_zero (x : ByteArray) (h : (q x).2 = false) : (q x).1 = 0 := by
  revert h
  unfold q
  split <;> split <;> simp
theorem word_value_is (k : Nat) (c : Int) (h0 : 0 ≤ c) (h : c < 256) : word_value.f (k + 1) c = some (dv c) := by
  unfold word_value.f dv
  by_cases a : c ≥ 48
  · rw [if_pos a, word_value.j0]
    by_cases b : c ≤ 57
    · rw [if_pos (decide_eq_true b), if_pos ⟨a, b⟩]; congr 1; omega
    · rw [if_neg (by simpa using b), if_neg (show ¬(48 ≤ c ∧ c ≤ 57) by omega)]
      by_cases d : c ≥ 97
      · rw [if_pos d]
        by_cases e : c ≤ 102
        · rw [if_pos e, if_pos ⟨d, e⟩]; congr 1; omega
        · rw [if_neg e, if_neg (by omega)]
      · rw [if_neg d, if_neg (by omega)]
  · rw [if_neg a, word_value.j0, if_neg (by simp), if_neg (show ¬ c ≥ 97 by omega), if_neg (show ¬(48 ≤ c ∧ c ≤ 57) by omega), if_neg (by omega)]
theorem vireoref01_value_is (k : Nat) (c : Int) (h0 : 0 ≤ c) (h : c < 256) : vireoref01_value.f (k + 1) c = some (dv c) := by
  unfold vireoref01_value.f dv
  have w := w64_id c (by omega) (by omega)
  by_cases a : c ≥ 48
  · rw [if_pos a, vireoref01_value.j0]
    by_cases b : c ≤ 57
    · rw [if_pos (decide_eq_true b), if_pos ⟨a, b⟩, w, w64_id _ (by omega) (by omega)]
    · rw [if_neg (by simpa using b), if_neg (show ¬(48 ≤ c ∧ c ≤ 57) by omega)]
      by_cases d : c ≥ 97
      · rw [if_pos d]
        by_cases e : c ≤ 102
        · rw [if_pos e, if_pos ⟨d, e⟩, w, w64_id (c - 97) (by omega) (by omega), w64_id _ (by omega) (by omega)]; congr 1; omega
        · rw [if_neg e, if_neg (by omega)]
      · rw [if_neg d, if_neg (by omega)]
  · rw [if_neg a, vireoref01_value.j0, if_neg (by simp), if_neg (show ¬ c ≥ 97 by omega), if_neg (show ¬(48 ≤ c ∧ c ≤ 57) by omega), if_neg (by omega)]
theorem word_Parse_l0 (x : ByteArray) (hx : x.size ≤ 140737488351232) (b : Int) (hb : b = 10 ∨ b = 16) : ∀ (m k : Nat) (n i : Int), i + m = x.size → 0 ≤ i → 0 ≤ n → n < 18446744073709551616 → word_Parse.l0 (m + k + 2) x b n (x.size : Int) i = some (told (run x b m n i))
  | 0, k, n, i, hi, h0, hn, hm => by rw [word_Parse.l0, if_neg (by omega)]; rfl
  | m + 1, k, n, i, hi, h0, hn, hm => by
    have hd := dv_range (c := bt x i)
    have hr := bt_range x i
    have e : m + 1 + k + 2 = (m + k + 1) + 1 + 1 := by omega
    rw [e, word_Parse.l0, if_pos (by omega), if_pos h0, if_pos (by omega), word_value_is _ _ hr.1 hr.2, Option.bind_some, run]
    generalize dv (bt x i) = d at *
    by_cases c : d ≥ b
    · rw [if_pos c, if_pos c]; rfl
    · rw [if_neg c, if_neg c, if_neg (by omega), u64_id (18446744073709551615 - d) (by omega) (by omega), Int.tdiv_eq_ediv_of_nonneg (by omega)]
      have hq : (n > (18446744073709551615 - d) / b) ↔ (n * b + d ≥ 18446744073709551616) := by rcases hb with rfl | rfl <;> omega
      have hu : IntKind.u64.wrap ((18446744073709551615 - d) / b) = (18446744073709551615 - d) / b := by rcases hb with rfl | rfl <;> exact u64_id _ (by omega) (by omega)
      rw [hu]
      by_cases g : n * b + d ≥ 18446744073709551616
      · rw [if_pos (hq.2 g), if_pos g]; rfl
      · have hp : 0 ≤ n * b := Int.mul_nonneg hn (by omega)
        rw [if_neg (fun t => g (hq.1 t)), if_neg g, u64_id (n * b) hp (by omega), u64_id (n * b + d) (by omega) (by omega), w64_id (i + 1) (by omega) (by omega)]
        exact word_Parse_l0 x hx b hb m k _ _ (by omega) (by omega) (by omega) (by omega)
theorem word_Parse_j1 (x : ByteArray) (hx : x.size ≤ 140737488351232) (b : Int) (hb : b = 10 ∨ b = 16) (k : Nat) (hk : x.size + 3 ≤ k) : word_Parse.j1 k x b = some (pz x b) := by
  obtain ⟨k, rfl⟩ : ∃ j, k = x.size + j + 2 + 1 := ⟨k - x.size - 3, by omega⟩
  have hs : x.toList = [] ↔ x.size = 0 := by rw [ByteArray.toList_eq, ← data_length x]; exact List.length_eq_zero_iff.symm
  rw [word_Parse.j1]
  unfold pz
  by_cases c : x.size = 0
  · rw [if_pos (hs.2 c), if_pos c]
  · rw [if_neg (fun h => c (hs.1 h)), if_neg c]
    exact word_Parse_l0 x hx b hb x.size k 0 0 (by omega) (by omega) (by omega) (by omega)
theorem ex_size (x : ByteArray) (i : Nat) (h : i ≤ x.size) : (x.extract i x.size).size = x.size - i := by simp
theorem word_Parse_is (x : ByteArray) (hx : x.size ≤ 140737488351232) (k : Nat) (hk : x.size + 5 ≤ k) : word_Parse.f k x = some (p x) := by
  obtain ⟨k, rfl⟩ : ∃ j, k = j + 1 := ⟨k - 1, by omega⟩
  unfold word_Parse.f p
  by_cases c : x.size > 2
  · rw [if_pos (by omega), if_pos (by omega), if_pos (by omega), word_Parse.j0]
    by_cases d : (x.extract 0 2).toList = ([48, 120] : List UInt8)
    · have hs := ex_size x 2 (by omega)
      rw [if_pos (by rw [d]; rfl), if_pos (by omega), if_pos ⟨c, d⟩]
      exact word_Parse_j1 _ (by omega) 16 (Or.inr rfl) _ (by omega)
    · rw [if_neg (by simpa using d), if_neg (fun h => d h.2)]
      exact word_Parse_j1 _ (by omega) 10 (Or.inl rfl) _ (by omega)
  · rw [if_neg (by omega), if_neg (fun h => c h.1), word_Parse.j0, if_neg (by simp)]
    exact word_Parse_j1 _ (by omega) 10 (Or.inl rfl) _ (by omega)
theorem vireoref01_Parse_l0 (x : ByteArray) (hx : x.size ≤ 140737488351232) (b : Int) (hb : b = 10 ∨ b = 16) : ∀ (m k : Nat) (hi lo i : Int), i + m = x.size → 0 ≤ i → 0 ≤ hi → hi < 4294967296 → 0 ≤ lo → lo < 4294967296 → vireoref01_Parse.l0 (m + k + 2) x b hi lo i = some (if x.size = 0 then (hi * 4294967296 + lo, false) else told (run x b m (hi * 4294967296 + lo) i))
  | 0, k, hi, lo, i, he, h0, h1, h2, h3, h4 => by
    rw [vireoref01_Parse.l0, if_neg (by omega), u64_id (hi * 4294967296) (by omega) (by omega), u64_id _ (by omega) (by omega), run]
    by_cases c : x.size = 0
    · rw [if_pos c, c]; rfl
    · rw [if_neg c, decide_eq_true (by omega)]; rfl
  | m + 1, k, hi, lo, i, he, h0, h1, h2, h3, h4 => by
    have hd := dv_range (c := bt x i)
    have hr := bt_range x i
    have e : m + 1 + k + 2 = (m + k + 1) + 1 + 1 := by omega
    rw [e, vireoref01_Parse.l0, if_pos (by omega), if_pos h0, vireoref01_value_is _ _ hr.1 hr.2, Option.bind_some, Option.bind_some, run, if_neg (show ¬ x.size = 0 by omega)]
    generalize dv (bt x i) = d at *
    have hbb : IntKind.u64.wrap b = b := by rcases hb with rfl | rfl <;> exact u64_id _ (by omega) (by omega)
    have hp : 0 ≤ lo * b := Int.mul_nonneg h3 (by omega)
    have hp2 : 0 ≤ hi * b := Int.mul_nonneg h1 (by omega)
    have hb1 : lo * b < 68719476736 := by rcases hb with rfl | rfl <;> omega
    have hb2 : hi * b < 68719476736 := by rcases hb with rfl | rfl <;> omega
    have hmul : (hi * 4294967296 + lo) * b = hi * b * 4294967296 + lo * b := by rw [Int.add_mul, Int.mul_right_comm]
    by_cases c : d ≥ b
    · rw [if_pos c, if_pos c]; rfl
    · rw [if_neg c, if_neg c, hbb, hmul, u64_id (lo * b) hp (by omega), u64_id d (by omega) (by omega), u64_id (lo * b + d) (by omega) (by omega), u64_id (hi * b) hp2 (by omega), Int.tdiv_eq_ediv_of_nonneg (by omega), Int.tmod_eq_emod_of_nonneg (by omega), u64_id ((lo * b + d) / 4294967296) (by omega) (by omega), u64_id (hi * b + (lo * b + d) / 4294967296) (by omega) (by omega)]
      generalize hi * b = H at *
      generalize lo * b = L at *
      by_cases g : H + (L + d) / 4294967296 ≥ 4294967296
      · rw [if_pos g, if_pos (by omega)]; rfl
      · rw [if_neg g, if_neg (by omega), w64_id (i + 1) (by omega) (by omega), vireoref01_Parse_l0 x hx b hb m k _ _ (i + 1) (by omega) (by omega) (by omega) (by omega) (by omega) (by omega), if_neg (by omega)]
        have e2 : (H + (L + d) / 4294967296) * 4294967296 + (L + d) % 4294967296 = H * 4294967296 + L + d := by omega
        rw [e2]
theorem vireoref01_Parse_j1 (x : ByteArray) (hx : x.size ≤ 140737488351232) (b : Int) (hb : b = 10 ∨ b = 16) (k : Nat) (hk : x.size + 3 ≤ k) : vireoref01_Parse.j1 k x b = some (pz x b) := by
  obtain ⟨k, rfl⟩ : ∃ j, k = x.size + j + 2 + 1 := ⟨k - x.size - 3, by omega⟩
  rw [vireoref01_Parse.j1, vireoref01_Parse_l0 x hx b hb x.size k 0 0 0 (by omega) (by omega) (by omega) (by omega) (by omega) (by omega)]
  rfl
theorem vireoref01_Parse_is (x : ByteArray) (hx : x.size ≤ 140737488351232) (k : Nat) (hk : x.size + 5 ≤ k) : vireoref01_Parse.f k x = some (p x) := by
  obtain ⟨k, rfl⟩ : ∃ j, k = j + 1 := ⟨k - 1, by omega⟩
  unfold vireoref01_Parse.f p
  by_cases c : x.size > 2
  · rw [if_pos (by omega), if_pos (by omega), if_pos (by omega), vireoref01_Parse.j0]
    by_cases d : (x.extract 0 2).toList = ([48, 120] : List UInt8)
    · have hs := ex_size x 2 (by omega)
      rw [if_pos (by rw [d]; rfl), if_pos (by omega), if_pos ⟨c, d⟩]
      exact vireoref01_Parse_j1 _ (by omega) 16 (Or.inr rfl) _ (by omega)
    · rw [if_neg (by simpa using d), if_neg (fun h => d h.2)]
      exact vireoref01_Parse_j1 _ (by omega) 10 (Or.inl rfl) _ (by omega)
  · rw [if_neg (by omega), if_neg (fun h => c h.1), vireoref01_Parse.j0, if_neg (by simp)]
    exact vireoref01_Parse_j1 _ (by omega) 10 (Or.inl rfl) _ (by omega)
theorem word_ParseInt_j0 (x : ByteArray) (hx : x.size ≤ 140737488351232) (k : Nat) (hk : x.size + 7 ≤ k) (b : Bool) (hb : b = true ↔ (x.size ≠ 0 ∧ bt x 0 = 45)) : word_ParseInt.j0 k x b = some (q x) := by
  obtain ⟨k, rfl⟩ : ∃ j, k = j + 1 + 1 := ⟨k - 2, by omega⟩
  rw [word_ParseInt.j0]
  unfold q
  by_cases c : b = true
  · have hc := hb.1 c
    have hs := ex_size x 1 (by omega)
    rw [if_pos c, if_pos hc, if_pos (by omega), word_Parse_is _ (by omega) _ (by omega), Option.bind_some]
    generalize p (x.extract 1 x.size) = r
    obtain ⟨v, s⟩ := r
    cases s
    · rw [if_neg (by simp), word_ParseInt.j1, if_pos rfl, if_neg (by simp)]
    · rw [if_pos rfl, word_ParseInt.j1]
      by_cases g : v > 9223372036854775808
      · rw [if_pos (decide_eq_true g), if_neg (by simp; omega)]
      · rw [if_neg (by simpa using g), if_pos ⟨rfl, by simpa using g⟩]
  · rw [if_neg c, if_neg (fun h => c (hb.2 h)), word_Parse_is _ (by omega) _ (by omega), Option.bind_some]
    generalize p x = r
    obtain ⟨v, s⟩ := r
    cases s
    · rw [if_neg (by simp), if_neg (by simp)]
    · rw [if_pos rfl]
      by_cases g : v ≥ 9223372036854775808
      · rw [if_pos g, if_neg (fun h => by have := h.2; simp only at this; omega)]
      · rw [if_neg g, if_pos ⟨rfl, by simp only; omega⟩]
theorem word_ParseInt_is (x : ByteArray) (hx : x.size ≤ 140737488351232) (k : Nat) (hk : x.size + 7 ≤ k) : word_ParseInt.f k x = some (q x) := by
  have hs : x.toList = [] ↔ x.size = 0 := by rw [ByteArray.toList_eq, ← data_length x]; exact List.length_eq_zero_iff.symm
  unfold word_ParseInt.f
  by_cases c : x.size = 0
  · rw [if_pos (hs.2 c)]
    exact word_ParseInt_j0 x hx k hk _ (by simp [c])
  · rw [if_neg (fun h => c (hs.1 h)), if_pos (by omega)]
    exact word_ParseInt_j0 x hx k hk _ (by simp [c])
theorem vireoref01_ParseInt_j0 (x : ByteArray) (hx : x.size ≤ 140737488351232) (k : Nat) (hk : x.size + 7 ≤ k) (b : Bool) (hb : b = true ↔ (x.size ≠ 0 ∧ bt x 0 = 45)) : vireoref01_ParseInt.j0 k x b = some (q x) := by
  obtain ⟨k, rfl⟩ : ∃ j, k = j + 1 + 1 := ⟨k - 2, by omega⟩
  rw [vireoref01_ParseInt.j0]
  unfold q
  by_cases c : b = true
  · have hc := hb.1 c
    have hs := ex_size x 1 (by omega)
    have hp := p_range (x.extract 1 x.size)
    rw [if_pos c, if_pos hc, if_pos (by omega), vireoref01_Parse_is _ (by omega) _ (by omega), Option.bind_some]
    generalize p (x.extract 1 x.size) = r at *
    obtain ⟨v, s⟩ := r
    cases s
    · rw [if_neg (by simp), vireoref01_ParseInt.j1, if_pos rfl, if_neg (by simp)]
    · rw [if_pos rfl, vireoref01_ParseInt.j1]
      by_cases g : v > 9223372036854775808
      · rw [if_pos (decide_eq_true g), if_neg (by simp; omega)]
      · rw [if_neg (by simpa using g), if_pos ⟨rfl, by simpa using g⟩]
        obtain ⟨n, rfl⟩ := Int.eq_ofNat_of_zero_le (a := v) hp.1
        have hn : n < 18446744073709551616 := by have := hp.2.1; simp only at this; omega
        rw [not_nat n hn]
        have e : IntKind.u64.wrap (((18446744073709551615 - n : Nat) : Int) + 1) = IntKind.u64.wrap (-(n : Int)) := by rw [IntKind.wrap_u64, IntKind.wrap_u64]; omega
        rw [e]
  · rw [if_neg c, if_neg (fun h => c (hb.2 h)), vireoref01_Parse_is _ (by omega) _ (by omega), Option.bind_some]
    generalize p x = r
    obtain ⟨v, s⟩ := r
    cases s
    · rw [if_neg (by simp), if_neg (by simp)]
    · rw [if_pos rfl]
      by_cases g : v > 9223372036854775807
      · rw [if_pos g, if_neg (fun h => by have := h.2; simp only at this; omega)]
      · rw [if_neg g, if_pos ⟨rfl, by simp only; omega⟩]
theorem vireoref01_ParseInt_is (x : ByteArray) (hx : x.size ≤ 140737488351232) (k : Nat) (hk : x.size + 7 ≤ k) : vireoref01_ParseInt.f k x = some (q x) := by
  unfold vireoref01_ParseInt.f
  by_cases c : x.size = 0
  · rw [if_neg (by omega)]
    exact vireoref01_ParseInt_j0 x hx k hk _ (by simp [c])
  · rw [if_pos (by omega), if_pos (by omega)]
    exact vireoref01_ParseInt_j0 x hx k hk _ (by simp [c])
/-- one digit -/
def dg (d : Nat) : ByteArray := (⟨#[48, 49, 50, 51, 52, 53, 54, 55, 56, 57, 97, 98, 99, 100, 101, 102]⟩ : ByteArray).extract d (d + 1)
/-- the digits of w in base b, the highest first; fuel -/
def tx (b : Nat) : Nat → Nat → ByteArray
  | 0, _ => ⟨#[]⟩
  | f + 1, w => if w < b then dg w else tx b f (w / b) ++ dg (w % b)
theorem dg_size (d : Nat) (h : d < 16) : (dg d).size = 1 := by
  unfold dg
  rw [ByteArray.size_extract]
  have : (⟨#[48, 49, 50, 51, 52, 53, 54, 55, 56, 57, 97, 98, 99, 100, 101, 102]⟩ : ByteArray).size = 16 := rfl
  rw [this]; omega
theorem tx_size (b : Nat) (hb : 0 < b) (h : b ≤ 16) : ∀ f w, (tx b f w).size ≤ f
  | 0, w => by simp [tx, ByteArray.size]
  | f + 1, w => by
    rw [tx]
    split
    · rw [dg_size _ (by omega)]; omega
    · have := tx_size b hb h f (w / b)
      have hm := Nat.mod_lt w hb
      rw [ByteArray.size_append, dg_size _ (by omega)]; omega
theorem app_assoc (a b c : ByteArray) : a ++ b ++ c = a ++ (b ++ c) := ByteArray.append_assoc
theorem dg_is (d : Int) (h0 : 0 ≤ d) (h : d < 16) : (⟨#[48, 49, 50, 51, 52, 53, 54, 55, 56, 57, 97, 98, 99, 100, 101, 102]⟩ : ByteArray).extract d.toNat (IntKind.u64.wrap (d + 1)).toNat = dg d.toNat := by
  rw [u64_id _ (by omega) (by omega)]
  unfold dg
  congr 1; omega
theorem and15 (w : Nat) (hw : w < 18446744073709551616) : Go.bits .and .u64 (w : Int) 15 = ((w % 16 : Nat) : Int) := by
  have h := and_nat w 15 hw (by omega)
  have e : w &&& 15 = w % 16 := Nat.and_two_pow_sub_one_eq_mod w 4
  rw [e] at h
  exact h
theorem word_Hex_l0 : ∀ (f k w : Nat) (s : ByteArray), w < 16 ^ (f + 1) → w < 18446744073709551616 → s.size + f ≤ 1000 → word_Hex.l0 (f + k + 1) (w : Int) s = some ((⟨#[48, 120]⟩ : ByteArray) ++ (tx 16 (f + 1) w ++ s))
  | f, k, w, s, hw, hm, hs => by
    have hd : w % 16 < 16 := Nat.mod_lt _ (by omega)
    have hz := dg_size (w % 16) hd
    rw [word_Hex.l0, and15 w hm, if_pos (by omega), if_pos (by rw [u64_id _ (by omega) (by omega)]; omega), if_pos (by rw [u64_id _ (by omega) (by omega)]; omega), dg_is _ (by omega) (by omega), Int.toNat_natCast, if_pos (by omega), tx]
    by_cases c : w < 16
    · have e : w % 16 = w := Nat.mod_eq_of_lt c
      rw [if_pos (by omega), if_pos (by rw [ByteArray.size_append]; omega), if_pos c, e]
    · rw [if_neg (by omega), if_neg c]
      match f, hw, hs with
      | 0, hw, hs => omega
      | f + 1, hw, hs =>
        have hq : w / 16 < 16 ^ (f + 1) := by rw [Nat.pow_succ] at hw; omega
        have ih := word_Hex_l0 f k (w / 16) (dg (w % 16) ++ s) hq (by omega) (by rw [ByteArray.size_append]; omega)
        have e : f + 1 + k = f + k + 1 := by omega
        have e2 : (w : Int) / 16 = ((w / 16 : Nat) : Int) := by omega
        rw [e, e2, ih, app_assoc]
theorem app_nil (a : ByteArray) : a ++ (⟨#[]⟩ : ByteArray) = a := by
  have : (⟨#[]⟩ : ByteArray) = ByteArray.empty := rfl
  rw [this, ByteArray.append_empty]
theorem word_Hex_is (k : Nat) (hk : 20 ≤ k) (w : Nat) (hw : w < 18446744073709551616) : word_Hex.f k (w : Int) = some ((⟨#[48, 120]⟩ : ByteArray) ++ tx 16 16 w) := by
  obtain ⟨k, rfl⟩ : ∃ j, k = 15 + j + 1 := ⟨k - 16, by omega⟩
  unfold word_Hex.f
  rw [word_Hex_l0 15 k w _ (by simpa using hw) hw (by simp [ByteArray.size]), app_nil]
theorem word_Dec_l0 : ∀ (f k w : Nat) (g s : ByteArray), w < 10 ^ (f + 1) → w < 18446744073709551616 → s.size + f + g.size ≤ 1000 → word_Dec.l0 (f + k + 1) (w : Int) g s = some (g ++ (tx 10 (f + 1) w ++ s))
  | f, k, w, g, s, hw, hm, hs => by
    have hd : w % 10 < 10 := Nat.mod_lt _ (by omega)
    have hz := dg_size (w % 10) (by omega)
    have em : Int.tmod (w : Int) 10 = ((w % 10 : Nat) : Int) := tmod_nat w 10
    have ed : IntKind.u64.wrap (Int.tdiv (w : Int) 10) = ((w / 10 : Nat) : Int) := by rw [show Int.tdiv (w : Int) 10 = ((w / 10 : Nat) : Int) from tdiv_nat w 10]; exact u64_id _ (by omega) (by omega)
    rw [word_Dec.l0, em, ed, if_pos (by omega), if_pos (by rw [u64_id _ (by omega) (by omega)]; omega), if_pos (by rw [u64_id _ (by omega) (by omega)]; omega), dg_is _ (by omega) (by omega), Int.toNat_natCast, if_pos (by omega), tx]
    by_cases c : w < 10
    · have e : w % 10 = w := Nat.mod_eq_of_lt c
      rw [if_pos (by omega), if_pos (by rw [ByteArray.size_append]; omega), if_pos c, e]
    · rw [if_neg (by omega), if_neg c]
      match f, hw, hs with
      | 0, hw, hs => omega
      | f + 1, hw, hs =>
        have hq : w / 10 < 10 ^ (f + 1) := by rw [Nat.pow_succ] at hw; omega
        have ih := word_Dec_l0 f k (w / 10) g (dg (w % 10) ++ s) hq (by omega) (by rw [ByteArray.size_append]; omega)
        have e : f + 1 + k = f + k + 1 := by omega
        rw [e, ih, app_assoc]
/-- a number's text -/
def decOf (n : Int) : ByteArray := if n < 0 then (⟨#[45]⟩ : ByteArray) ++ tx 10 20 (-n).toNat else tx 10 20 n.toNat
theorem nil_app (a : ByteArray) : (⟨#[]⟩ : ByteArray) ++ a = a := by
  have : (⟨#[]⟩ : ByteArray) = ByteArray.empty := rfl
  rw [this, ByteArray.empty_append]
theorem word_Dec_is (k : Nat) (hk : 30 ≤ k) (n : Int) (h0 : -9223372036854775808 ≤ n) (h1 : n ≤ 9223372036854775807) : word_Dec.f k n = some (decOf n) := by
  obtain ⟨k, rfl⟩ : ∃ j, k = 19 + j + 1 + 1 := ⟨k - 21, by omega⟩
  unfold word_Dec.f decOf
  by_cases c : n < 0
  · have e : IntKind.u64.wrap (-(IntKind.u64.wrap n)) = (((-n).toNat : Nat) : Int) := by rw [IntKind.wrap_u64, IntKind.wrap_u64]; omega
    rw [if_pos c, if_pos c, e, word_Dec.j0, word_Dec_l0 19 k _ _ _ (by omega) (by omega) (by simp [ByteArray.size]), app_nil]
  · have e : IntKind.u64.wrap n = ((n.toNat : Nat) : Int) := by rw [IntKind.wrap_u64]; omega
    rw [if_neg c, if_neg c, e, word_Dec.j0, word_Dec_l0 19 k _ _ _ (by omega) (by omega) (by simp [ByteArray.size]), app_nil, nil_app]
theorem vireoref01_text_is (b : Nat) (hb : 1 < b) (hb16 : b ≤ 16) : ∀ (f k w : Nat), w < b ^ (f + 1) → w < 18446744073709551616 → f ≤ 1000 → vireoref01_text.f (f + k + 1) (w : Int) (b : Int) = some (tx b (f + 1) w)
  | f, k, w, hw, hm, hf => by
    have hd : w % b < b := Nat.mod_lt _ (by omega)
    have hz := dg_size (w % b) (by omega)
    have ed : IntKind.u64.wrap (Int.tdiv (w : Int) b) = ((w / b : Nat) : Int) := by
      rw [tdiv_nat w b]
      have := Nat.div_le_self w b
      exact u64_nat _ (by omega)
    rw [vireoref01_text.f, if_neg (by omega), tmod_nat w b, ed, if_pos (by omega), if_pos (by rw [u64_id _ (by omega) (by omega)]; omega), if_pos (by rw [u64_id _ (by omega) (by omega)]; omega), dg_is _ (by omega) (by omega), Int.toNat_natCast, tx]
    by_cases c : w < b
    · have e : w % b = w := Nat.mod_eq_of_lt c
      rw [if_pos (by omega), if_pos c, e]
    · rw [if_neg (by omega), if_neg c]
      match f, hw, hf with
      | 0, hw, hf => simp at hw; omega
      | f + 1, hw, hf =>
        have hq : w / b < b ^ (f + 1) := by
          rw [Nat.pow_succ] at hw
          exact Nat.div_lt_of_lt_mul (by rw [Nat.mul_comm]; exact hw)
        have ih := vireoref01_text_is b hb hb16 f k (w / b) hq (by have := Nat.div_le_self w b; omega) (by omega)
        have hs := tx_size b (by omega) hb16 (f + 1) (w / b)
        have e : f + 1 + k = f + k + 1 := by omega
        rw [e, ih, Option.bind_some, if_pos (by omega)]
theorem vireoref01_Hex_is (k : Nat) (hk : 20 ≤ k) (w : Nat) (hw : w < 18446744073709551616) : vireoref01_Hex.f k (w : Int) = some ((⟨#[48, 120]⟩ : ByteArray) ++ tx 16 16 w) := by
  obtain ⟨k, rfl⟩ : ∃ j, k = 15 + j + 1 := ⟨k - 16, by omega⟩
  have hs := tx_size 16 (by omega) (by omega) 16 w
  have h : _ = some (tx 16 16 w) := vireoref01_text_is 16 (by omega) (by omega) 15 k w (by omega) hw (by omega)
  unfold vireoref01_Hex.f
  rw [show (16 : Int) = ((16 : Nat) : Int) from rfl, h, Option.bind_some, if_pos (by omega)]
theorem vireoref01_Dec_is (k : Nat) (hk : 30 ≤ k) (n : Int) (h0 : -9223372036854775808 ≤ n) (h1 : n ≤ 9223372036854775807) : vireoref01_Dec.f k n = some (decOf n) := by
  obtain ⟨k, rfl⟩ : ∃ j, k = 19 + j + 1 := ⟨k - 20, by omega⟩
  unfold vireoref01_Dec.f decOf
  have ht : ∀ w, w < 10 ^ 20 → w < 18446744073709551616 → 19 ≤ 1000 → _ = some (tx 10 20 w) := fun w h => vireoref01_text_is 10 (by omega) (by omega) 19 k w h
  by_cases c : n < 0
  · have e0 : IntKind.u64.wrap n = (((18446744073709551616 + n).toNat : Nat) : Int) := by rw [IntKind.wrap_u64]; omega
    have e : IntKind.u64.wrap (Go.bits .xor .u64 18446744073709551615 (IntKind.u64.wrap n) + 1) = (((-n).toNat : Nat) : Int) := by
      rw [e0, not_nat _ (by omega), IntKind.wrap_u64]; omega
    have hs := tx_size 10 (by omega) (by omega) 20 (-n).toNat
    rw [if_pos c, if_pos c, e, show (10 : Int) = ((10 : Nat) : Int) from rfl, ht _ (by omega) (by omega) (by omega), Option.bind_some, if_pos (by omega)]
  · have e : IntKind.u64.wrap n = ((n.toNat : Nat) : Int) := by rw [IntKind.wrap_u64]; omega
    rw [if_neg c, if_neg c, e, show (10 : Int) = ((10 : Nat) : Int) from rfl, ht _ (by omega) (by omega) (by omega), Option.bind_some]
theorem bt_left (x y : ByteArray) (i : Int) (h0 : 0 ≤ i) (h : i < x.size) : bt (x ++ y) i = bt x i := by
  unfold bt
  have h1 : i.toNat < x.size := by omega
  have h2 : i.toNat < (x ++ y).size := by rw [ByteArray.size_append]; omega
  rw [dif_pos h2, dif_pos h1, ByteArray.getElem_append_left h1]
theorem bt_right (x y : ByteArray) (i : Int) (h : (x.size : Int) ≤ i) : bt (x ++ y) i = bt y (i - x.size) := by
  unfold bt
  have e : i.toNat - x.size = (i - x.size).toNat := by omega
  by_cases h1 : (i - x.size).toNat < y.size
  · have h2 : i.toNat < (x ++ y).size := by rw [ByteArray.size_append]; omega
    rw [dif_pos h2, dif_pos h1, ByteArray.getElem_append_right (by omega)]
    simp only [e]
  · have h2 : ¬ i.toNat < (x ++ y).size := by rw [ByteArray.size_append]; omega
    rw [dif_neg h2, dif_neg h1]
theorem bt_dg : ∀ d, d < 16 → dv (bt (dg d) 0) = (d : Int) := by decide +kernel
theorem bt_dg10 : ∀ d, d < 10 → 48 ≤ bt (dg d) 0 ∧ bt (dg d) 0 ≤ 57 := by decide +kernel
theorem run_app (x y : ByteArray) (b : Int) : ∀ (m : Nat) (n i : Int), 0 ≤ i → i + m = x.size → ∀ j, run (x ++ y) b (m + j) n i = (run x b m n i).bind fun v => run (x ++ y) b j v x.size
  | 0, n, i, h0, h, j => by
    have e : i = (x.size : Int) := by omega
    rw [Nat.zero_add, e]; rfl
  | m + 1, n, i, h0, h, j => by
    have e : m + 1 + j = (m + j) + 1 := by omega
    rw [e, run, run, bt_left x y i h0 (by omega)]
    split
    · rfl
    · split
      · rfl
      · exact run_app x y b m _ _ (by omega) (by omega) j
theorem tx_pos (b : Nat) (hb : 0 < b) (h : b ≤ 16) (f w : Nat) : 0 < (tx b (f + 1) w).size := by
  rw [tx]
  split
  · rw [dg_size _ (by omega)]; omega
  · have hm := Nat.mod_lt w hb
    rw [ByteArray.size_append, dg_size _ (by omega)]; omega
theorem run_tx (b : Nat) (hb : 1 < b) (h16 : b ≤ 16) : ∀ (f w : Nat), w < b ^ (f + 1) → w < 18446744073709551616 → run (tx b (f + 1) w) b (tx b (f + 1) w).size 0 0 = some (w : Int)
  | f, w, hw, hm => by
    rw [tx]
    by_cases c : w < b
    · rw [if_pos c, dg_size _ (by omega), run, bt_dg w (by omega), if_neg (by omega), if_neg (by omega), run]
      congr 1; omega
    · rw [if_neg c]
      match f, hw with
      | 0, hw => simp at hw; omega
      | f + 1, hw =>
        have hd : w % b < b := Nat.mod_lt _ (by omega)
        have hq : w / b < b ^ (f + 1) := by
          rw [Nat.pow_succ] at hw
          exact Nat.div_lt_of_lt_mul (by rw [Nat.mul_comm]; exact hw)
        have ih := run_tx b hb h16 f (w / b) hq (by have := Nat.div_le_self w b; omega)
        have hx : (w / b : Nat) * b + w % b = w := by rw [Nat.mul_comm]; exact Nat.div_add_mod w b
        generalize tx b (f + 1) (w / b) = t at *
        have hx2 : ((w / b : Nat) : Int) * (b : Int) + ((w % b : Nat) : Int) = (w : Int) := by rw [← Int.natCast_mul, ← Int.natCast_add, hx]
        have ez : ∀ z : Int, z - z = 0 := fun z => by omega
        rw [ByteArray.size_append, dg_size _ (by omega), run_app t _ _ t.size 0 0 (by omega) (by omega) 1, ih, Option.bind_some, run, bt_right t _ _ (by omega), ez, bt_dg _ (by omega), if_neg (by omega), hx2, if_neg (by omega), run]
theorem pz_tx (b : Nat) (hb : 1 < b) (h16 : b ≤ 16) (f w : Nat) (hw : w < b ^ (f + 1)) (hm : w < 18446744073709551616) : pz (tx b (f + 1) w) b = ((w : Int), true) := by
  unfold pz
  have := tx_pos b (by omega) h16 f w
  rw [if_neg (by omega), run_tx b hb h16 f w hw hm]
  rfl
theorem tx_digits : ∀ (f w : Nat) (i : Int), w < 10 ^ (f + 1) → 0 ≤ i → i < (tx 10 (f + 1) w).size → 48 ≤ bt (tx 10 (f + 1) w) i ∧ bt (tx 10 (f + 1) w) i ≤ 57
  | f, w, i, hw, h0, h => by
    rw [tx] at h ⊢
    by_cases c : w < 10
    · rw [if_pos c] at h ⊢
      rw [dg_size _ (by omega)] at h
      have e : i = 0 := by omega
      rw [e]; exact bt_dg10 w c
    · rw [if_neg c] at h ⊢
      have hd : w % 10 < 10 := Nat.mod_lt _ (by omega)
      rw [ByteArray.size_append, dg_size _ (by omega)] at h
      by_cases g : i < (tx 10 f (w / 10)).size
      · rw [bt_left _ _ i h0 g]
        match f, hw with
        | 0, hw => simp at hw; omega
        | f + 1, hw => exact tx_digits f (w / 10) i (by rw [Nat.pow_succ] at hw; omega) h0 g
      · rw [bt_right _ _ i (by omega)]
        have e : i - ((tx 10 f (w / 10)).size : Int) = 0 := by omega
        rw [e]; exact bt_dg10 _ hd
theorem p_hex (w : Nat) (hw : w < 18446744073709551616) : p ((⟨#[48, 120]⟩ : ByteArray) ++ tx 16 16 w) = ((w : Int), true) := by
  have h2 : (⟨#[48, 120]⟩ : ByteArray).size = 2 := rfl
  have hp := tx_pos 16 (by omega) (by omega) 15 w
  have h3 : 0 < (tx 16 16 w).size := hp
  unfold p
  rw [ByteArray.extract_append_eq_left (by rw [h2]), ByteArray.extract_append_eq_right (by rw [h2]) (by rw [ByteArray.size_append, h2]), if_pos ⟨by rw [ByteArray.size_append, h2]; omega, by rw [ByteArray.toList_eq]⟩]
  exact pz_tx 16 (by omega) (by omega) 15 w (by omega) hw
theorem p_tx (w : Nat) (hw : w < 18446744073709551616) : p (tx 10 20 w) = ((w : Int), true) := by
  have hp : 0 < (tx 10 20 w).size := tx_pos 10 (by omega) (by omega) 19 w
  have hd : ∀ i : Int, 0 ≤ i → i < (tx 10 20 w).size → 48 ≤ bt (tx 10 20 w) i ∧ bt (tx 10 20 w) i ≤ 57 := fun i => tx_digits 19 w i (by omega)
  unfold p
  rw [if_neg]
  · exact pz_tx 10 (by omega) (by omega) 19 w (by omega) hw
  · intro ⟨h1, h2⟩
    have hb := hd 1 (by omega) (by omega)
    generalize tx 10 20 w = t at *
    rw [ByteArray.toList_eq, ByteArray.data_extract] at h2
    have e : bt t 1 = 120 := by
      unfold bt
      have hh : (1 : Int).toNat < t.size := by simp; omega
      rw [dif_pos hh, ByteArray.getElem_eq_getElem_data]
      have h3 : ((t.data.extract 0 2).toList)[1]? = some 120 := by rw [h2]; rfl
      rw [Array.getElem?_toList, Array.getElem?_extract] at h3
      have h4 : t.data[(1 : Int).toNat]? = some 120 := by
        have : 1 < min 2 t.data.size - 0 := by
          have : t.data.size = t.size := rfl
          omega
        rw [if_pos this] at h3
        exact h3
      rw [Array.getElem?_eq_getElem hh, Option.some.injEq] at h4
      rw [h4]; rfl
    omega
theorem q_dec (n : Int) (h0 : -9223372036854775808 ≤ n) (h1 : n ≤ 9223372036854775807) : q (decOf n) = (n, true) := by
  unfold decOf
  by_cases c : n < 0
  · rw [if_pos c]
    have hs : (⟨#[45]⟩ : ByteArray).size = 1 := rfl
    have hb : bt ((⟨#[45]⟩ : ByteArray) ++ tx 10 20 (-n).toNat) 0 = 45 := by rw [bt_left _ _ 0 (by omega) (by rw [hs]; omega)]; rfl
    unfold q
    rw [if_pos ⟨by rw [ByteArray.size_append, hs]; omega, hb⟩, ByteArray.extract_append_eq_right (by rw [hs]) (by rw [ByteArray.size_append]), p_tx _ (by omega), if_pos ⟨rfl, by simp only; omega⟩]
    congr 1
    rw [IntKind.wrap_u64]; unfold wrap64; simp only; omega
  · rw [if_neg c]
    have hp : 0 < (tx 10 20 n.toNat).size := tx_pos 10 (by omega) (by omega) 19 _
    have hd := tx_digits 19 n.toNat 0 (by omega) (by omega) (by show (0:Int) < ((tx 10 20 n.toNat).size : Int); omega)
    have hd : 48 ≤ bt (tx 10 20 n.toNat) 0 := hd.1
    unfold q
    rw [if_neg (by intro h; omega), p_tx _ (by omega), if_pos ⟨rfl, by simp only; omega⟩]
    congr 1
    simp only
    rw [w64_id _ (by omega) (by omega)]; omega
end Go.Proofs.Ytidcjbloidbpdaa.Pure
