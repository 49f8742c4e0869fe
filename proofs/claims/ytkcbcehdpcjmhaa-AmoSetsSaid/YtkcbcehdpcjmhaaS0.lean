import Derived.Test.YtkcbcehdpcjmhaaPAllx2
import Derived.Test.YtkcbcehdpcjmhaaPAllx3
import Derived.Test.YtkcbcehdpcjmhaaPAllx4
import Derived.Test.YtkcbcehdpcjmhaaPAllx6
import Derived.OpenShut
import Derived.Laws.BitsAllLaws
import Derived.Test.YtkcbcehdpcjmhaaVw
namespace Go.Proofs.Ytkcbcehdpcjmhaa.Pure
open Go.RowKit Go.Proofs.Ytkcbcehdpcjmhaa.PAll Go.Proofs.YtkcbcehdpcjmhaaW.PrintWords Go.Proofs.YtkcbcehdpcjmhaaW.PrintLast
open Go.Proofs.Ytkcbcehdpcjmhaa.Vw
set_option linter.unusedVariables false
set_option linter.unusedSimpArgs false

theorem u64_nat (n : Nat) (h : n < 18446744073709551616) : IntKind.u64.wrap (n : Int) = (n : Int) := by rw [IntKind.wrap_u64]; omega
theorem u64_id (n : Int) (h0 : 0 ≤ n) (h : n < 18446744073709551616) : IntKind.u64.wrap n = n := by rw [IntKind.wrap_u64]; omega
theorem w64_id (n : Int) (h0 : -9223372036854775808 ≤ n) (h : n < 9223372036854775808) : wrap64 n = n := by unfold wrap64; omega
theorem w64_nat (n : Nat) (h : n < 9223372036854775808) : wrap64 (n : Int) = (n : Int) := w64_id _ (by omega) (by omega)
theorem tdiv_nat (a b : Nat) : Int.tdiv (a : Int) (b : Int) = ((a / b : Nat) : Int) := by rw [Int.tdiv_eq_ediv_of_nonneg (by omega)]; simp
theorem tmod_nat (a b : Nat) : Int.tmod (a : Int) (b : Int) = ((a % b : Nat) : Int) := by rw [Int.tmod_eq_emod_of_nonneg (by omega)]; simp
theorem u64_of_wf {n : Int} (h : (Lit.int .u64 n).wf = true) : ∃ x : Nat, n = (x : Int) ∧ x < 18446744073709551616 := by
  have := bounds_u64 h
  exact ⟨n.toNat, by omega, by omega⟩
theorem i64_of_wf {n : Int} (h : (Lit.int .i64 n).wf = true) : -9223372036854775808 ≤ n ∧ n ≤ 9223372036854775807 := bounds_i64 h
theorem rd_bl (f : Nat → Bool) (n i : Nat) (h : i < n) : rd (bl f n) (i : Int) = bi (f i) := by
  unfold rd
  rw [Int.toNat_natCast]
  exact bl_get f n i h
theorem two64 : (2 : Nat) ^ 64 = 18446744073709551616 := by decide
theorem and_nat (a b : Nat) (ha : a < 18446744073709551616) (hb : b < 18446744073709551616) : Go.bits .and .u64 (a : Int) (b : Int) = ((a &&& b : Nat) : Int) := u64_and_nat a b ha hb
theorem or_nat (a b : Nat) (ha : a < 18446744073709551616) (hb : b < 18446744073709551616) : Go.bits .or .u64 (a : Int) (b : Int) = ((a ||| b : Nat) : Int) := u64_or_nat a b ha hb
theorem xor_nat (a b : Nat) (ha : a < 18446744073709551616) (hb : b < 18446744073709551616) : Go.bits .xor .u64 (a : Int) (b : Int) = ((a ^^^ b : Nat) : Int) := u64_xor_nat a b ha hb
theorem andNot_nat (a b : Nat) (ha : a < 18446744073709551616) (hb : b < 18446744073709551616) : Go.bits .andNot .u64 (a : Int) (b : Int) = ((a &&& (18446744073709551615 - b) : Nat) : Int) := u64_andNot_nat a b ha hb
theorem and_lt {a b : Nat} (ha : a < 18446744073709551616) : a &&& b < 18446744073709551616 := Nat.lt_of_le_of_lt Nat.and_le_left ha
theorem or_lt {a b : Nat} (ha : a < 18446744073709551616) (hb : b < 18446744073709551616) : a ||| b < 18446744073709551616 := by
  have := Nat.or_lt_two_pow (n := 64) (x := a) (y := b) (by rw [two64]; exact ha) (by rw [two64]; exact hb)
  rw [two64] at this; exact this
theorem xor_lt {a b : Nat} (ha : a < 18446744073709551616) (hb : b < 18446744073709551616) : a ^^^ b < 18446744073709551616 := by
  have := Nat.xor_lt_two_pow (n := 64) (x := a) (y := b) (by rw [two64]; exact ha) (by rw [two64]; exact hb)
  rw [two64] at this; exact this
theorem not_nat (b : Nat) (hb : b < 18446744073709551616) : Go.bits .xor .u64 18446744073709551615 (b : Int) = ((18446744073709551615 - b : Nat) : Int) := by
  have h := xor_nat 18446744073709551615 b (by omega) hb
  have e : (18446744073709551615 : Nat) ^^^ b = 18446744073709551615 - b := by
    apply Nat.eq_of_testBit_eq
    intro i
    rw [Nat.testBit_xor]
    have e1 : (18446744073709551615 : Nat) = 2 ^ 64 - 1 := by decide
    have e2 : (18446744073709551615 : Nat) - b = 2 ^ 64 - (b + 1) := by rw [two64]; omega
    rw [e2, Nat.testBit_two_pow_sub_succ (by rw [two64]; exact hb), e1, Nat.testBit_two_pow_sub_one]
    by_cases hi : i < 64
    · simp [hi]
    · have : b < 2 ^ i := Nat.lt_of_lt_of_le hb (by rw [← two64]; exact Nat.pow_le_pow_right (by decide) (by omega))
      simp [hi, Nat.testBit_lt_two_pow this]
  rw [e] at h
  exact h
theorem tb_not (b i : Nat) (hb : b < 18446744073709551616) : (18446744073709551615 - b).testBit i = (decide (i < 64) && !b.testBit i) := by
  have e2 : (18446744073709551615 : Nat) - b = 2 ^ 64 - (b + 1) := by rw [two64]; omega
  rw [e2, Nat.testBit_two_pow_sub_succ (by rw [two64]; exact hb)]
theorem eq64 {x y : Nat} (hx : x < 18446744073709551616) (hy : y < 18446744073709551616) (h : ∀ i, i < 64 → x.testBit i = y.testBit i) : x = y :=
  eq_of_bits (n := 64) (by rw [two64]; exact hx) (by rw [two64]; exact hy) h
theorem ob64 {x : Nat} (h : x < 18446744073709551616) : ob x.testBit 64 = x := ob_testBit (by rw [two64]; exact h)
theorem ob64_lt (f : Nat → Bool) : ob f 64 < 18446744073709551616 := by have := ob_lt f 64; rw [two64] at this; exact this
theorem shr_nat (x i : Nat) (hi : i ≤ 64) : shr .u64 (x : Int) (i : Int) = ((x / 2 ^ i : Nat) : Int) := by
  unfold shr
  rw [Int.toNat_natCast, Nat.min_eq_left (by simpa [IntKind.bits] using hi)]
  simp
theorem shl_nat (x i : Nat) (hi : i ≤ 64) : shl .u64 (x : Int) (i : Int) = ((x * 2 ^ i % 18446744073709551616 : Nat) : Int) := by
  unfold shl
  rw [Int.toNat_natCast, Nat.min_eq_left (by simpa [IntKind.bits] using hi), IntKind.wrap_u64]
  simp
theorem tb_shl (x s i : Nat) : (x * 2 ^ s % 18446744073709551616).testBit i = (decide (i < 64) && (decide (s ≤ i) && x.testBit (i - s))) := by
  rw [← two64, Nat.testBit_mod_two_pow, Nat.testBit_mul_two_pow]
theorem tb_shr (x s i : Nat) : (x / 2 ^ s).testBit i = x.testBit (s + i) := by
  rw [Nat.testBit_div_two_pow, Nat.add_comm]
/-- How many bits a number of bits asks for: at most 64. -/
def cnt (n : Int) : Nat := min n.toNat 64
theorem cnt_le (n : Int) : cnt n ≤ 64 := by unfold cnt; omega
theorem mn64 (n : Int) (i : Nat) : ((i : Int) < mn n 64) ↔ i < cnt n := by
  unfold mn cnt
  split <;> omega
def mask (n : Int) : Nat := 2 ^ cnt n - 1
theorem mask_lt (n : Int) : mask n < 18446744073709551616 := by
  unfold mask
  have h1 : 2 ^ cnt n ≤ 2 ^ 64 := Nat.pow_le_pow_right (by decide) (cnt_le n)
  have h2 : 0 < 2 ^ cnt n := Nat.two_pow_pos _
  rw [two64] at h1; omega
theorem tb_mask (n : Int) (i : Nat) : (mask n).testBit i = decide (i < cnt n) := by unfold mask; rw [Nat.testBit_two_pow_sub_one]
def getW (x : Nat) (at_ n : Int) : Nat := if 0 ≤ at_ ∧ at_ ≤ 63 then x / 2 ^ at_.toNat % 2 ^ cnt n else 0
theorem getW_lt {x : Nat} (h : x < 18446744073709551616) (at_ n : Int) : getW x at_ n < 18446744073709551616 := by
  unfold getW
  split
  · have h1 : x / 2 ^ at_.toNat % 2 ^ cnt n ≤ x / 2 ^ at_.toNat := Nat.mod_le _ _
    have h2 : x / 2 ^ at_.toNat ≤ x := Nat.div_le_self _ _
    omega
  · omega
theorem tb_getW (x : Nat) (at_ n : Int) (i : Nat) : (getW x at_ n).testBit i = (decide (0 ≤ at_ ∧ at_ ≤ 63) && (decide (i < cnt n) && x.testBit (at_.toNat + i))) := by
  unfold getW
  split
  · rename_i h
    rw [Nat.testBit_mod_two_pow, tb_shr]
    simp [h]
  · rename_i h
    simp [h]
def sextW (x : Nat) (n : Int) : Nat := if n ≤ 0 then 0 else if 64 ≤ n then x else ob (fun i => x.testBit (if i < n.toNat then i else n.toNat - 1)) 64
def putW (x : Nat) (at_ n : Int) (v : Nat) : Nat := if 0 ≤ at_ ∧ at_ ≤ 63 then ob (fun i => if at_.toNat ≤ i ∧ i < at_.toNat + cnt n then v.testBit (i - at_.toNat) else x.testBit i) 64 else x
theorem sextW_lt {x : Nat} (h : x < 18446744073709551616) (n : Int) : sextW x n < 18446744073709551616 := by
  unfold sextW
  split
  · omega
  · split
    · exact h
    · exact ob64_lt _
theorem putW_lt {x : Nat} (h : x < 18446744073709551616) (at_ n : Int) (v : Nat) : putW x at_ n v < 18446744073709551616 := by
  unfold putW
  split
  · exact ob64_lt _
  · exact h
theorem word_Mask_is (n : Int) : word_Mask.f n = some ((mask n : Nat) : Int) := by
  unfold word_Mask.f mask cnt
  by_cases h0 : n ≤ 0
  · rw [if_pos h0, show n.toNat = 0 by omega]; rfl
  · rw [if_neg h0]
    by_cases h1 : n ≥ 64
    · rw [if_pos h1, show min n.toNat 64 = 64 by omega]; rfl
    · rw [if_neg h1, if_pos (by omega)]
      obtain ⟨m, rfl⟩ := Int.eq_ofNat_of_zero_le (a := n) (by omega)
      have hm : m < 64 := by omega
      have e := shl_nat 1 m (by omega)
      have hp : 2 ^ m < 2 ^ 64 := Nat.pow_lt_pow_right (by decide) hm
      have hp0 : 0 < 2 ^ m := Nat.two_pow_pos _
      rw [two64] at hp
      rw [show ((1 : Int)) = ((1 : Nat) : Int) from rfl, e, Int.toNat_natCast, Nat.one_mul, Nat.mod_eq_of_lt hp, Nat.min_eq_left (by omega), u64_id _ (by omega) (by omega)]
      congr 1
      omega
theorem word_Get_is (x : Nat) (at_ n : Int) (hx : x < 18446744073709551616) : word_Get.f (x : Int) at_ n = some ((getW x at_ n : Nat) : Int) := by
  unfold word_Get.f
  by_cases h0 : at_ < 0
  · rw [if_pos h0]; unfold getW; rw [if_neg (by omega)]; rfl
  · rw [if_neg h0]
    by_cases h1 : at_ > 63
    · rw [if_pos h1]; unfold getW; rw [if_neg (by omega)]; rfl
    · rw [if_neg h1, if_pos (by omega), word_Mask_is]
      simp only [Option.bind_some]
      obtain ⟨a, rfl⟩ := Int.eq_ofNat_of_zero_le (a := at_) (by omega)
      rw [shr_nat x a (by omega), and_nat _ _ (Nat.lt_of_le_of_lt (Nat.div_le_self _ _) hx) (mask_lt n)]
      unfold getW mask
      rw [if_pos (by omega), Nat.and_two_pow_sub_one_eq_mod, Int.toNat_natCast]
theorem word_Sext32_is (x : Nat) (hx : x < 18446744073709551616) : word_Sext32.f (x : Int) = some ((sextW x 32 : Nat) : Int) := by
  unfold word_Sext32.f
  have e : sextW x 32 = if x.testBit 31 then x % 4294967296 + 18446744069414584320 else x % 4294967296 := by
    unfold sextW
    rw [if_neg (by omega), if_neg (by omega)]
    show ob (fun i => x.testBit (if i < 32 then i else 31)) 64 = _
    have hlt : x % 4294967296 < 2 ^ 32 := Nat.mod_lt _ (by decide)
    apply eq64 (ob64_lt _)
    · split <;> omega
    · intro i hi
      rw [testBit_ob]
      by_cases hs : x.testBit 31 = true
      · rw [if_pos hs]
        have e3 : x % 4294967296 + 18446744069414584320 = 2 ^ 32 * (2 ^ 32 - 1) + x % 4294967296 := by omega
        rw [e3, Nat.testBit_two_pow_mul_add _ hlt]
        rw [show (4294967296 : Nat) = 2 ^ 32 from rfl, Nat.testBit_mod_two_pow, Nat.testBit_two_pow_sub_one]
        by_cases h : i < 32
        · simp [h, hi]
        · simp [h, hi, hs]; omega
      · rw [if_neg hs, show (4294967296 : Nat) = 2 ^ 32 from rfl, Nat.testBit_mod_two_pow]
        by_cases h : i < 32
        · simp [h, hi]
        · simp [h, hi]; simpa using hs
  have ew : IntKind.u64.wrap (wrap64 (wrap32 (x : Int))) = if x / 2147483648 % 2 = 1 then ((x % 4294967296 + 18446744069414584320 : Nat) : Int) else ((x % 4294967296 : Nat) : Int) := by
    rw [IntKind.wrap_u64]
    unfold wrap32 wrap64
    split <;> omega
  rw [ew, e, Nat.testBit_eq_decide_div_mod_eq]
  by_cases hs : x / 2147483648 % 2 = 1
  · rw [if_pos hs, if_pos (by rw [decide_eq_true_iff]; exact hs)]
  · rw [if_neg hs, if_neg (by rw [decide_eq_true_iff]; exact hs)]
theorem Bits_l (x : Nat) (hx : x < 18446744073709551616) (d : Nat) : ∀ (k i : Nat), i + d = 64 → d < k → vireoref01_Bits.l0 k ((x / 2 ^ i : Nat) : Int) (bl x.testBit i) (i : Int) = some (bl x.testBit 64) := by
  induction d with
  | zero =>
    intro k i hi hk
    obtain ⟨k, rfl⟩ : ∃ m, k = m + 1 := ⟨k - 1, by omega⟩
    obtain rfl : i = 64 := by omega
    simp only [vireoref01_Bits.l0]
    rw [if_neg (by omega)]
  | succ d ih =>
    intro k i hi hk
    obtain ⟨k, rfl⟩ : ∃ m, k = m + 1 := ⟨k - 1, by omega⟩
    simp only [vireoref01_Bits.l0]
    have hl : x / 2 ^ i ≤ x := Nat.div_le_self _ _
    rw [if_pos (by omega), if_pos (by rw [bl_length]; omega)]
    have e1 : IntKind.u64.wrap (Int.tdiv ((x / 2 ^ i : Nat) : Int) 2) = ((x / 2 ^ (i + 1) : Nat) : Int) := by
      rw [show (2 : Int) = ((2 : Nat) : Int) from rfl, tdiv_nat, u64_nat _ (by omega), div_next]
    have e2 : wrap64 (Int.tmod ((x / 2 ^ i : Nat) : Int) 2) = bi (x.testBit i) := by
      rw [show (2 : Int) = ((2 : Nat) : Int) from rfl, tmod_nat, w64_id _ (by omega) (by omega), bit_at]
    have e3 : wrap64 ((i : Int) + 1) = ((i + 1 : Nat) : Int) := by rw [w64_id _ (by omega) (by omega)]; rfl
    rw [e1, e2, e3, ← bl_succ]
    exact ih k (i + 1) (by omega) (by omega)
theorem vireoref01_Bits_is (x : Nat) (hx : x < 18446744073709551616) (k : Nat) (hk : 65 ≤ k) : vireoref01_Bits.f k (x : Int) = some (bl x.testBit 64) := by
  unfold vireoref01_Bits.f
  have h := Bits_l x hx 64 k 0 (by omega) (by omega)
  simpa [bl_zero] using h
theorem Word_l (f : Nat → Bool) (n : Nat) (hn : n ≤ 64) (j : Nat) : ∀ (k : Nat), j ≤ n → j < k → vireoref01_Word.l0 k (bl f n) ((ob f n / 2 ^ j : Nat) : Int) ((j : Int) - 1) = some ((ob f n : Nat) : Int) := by
  have hX : ob f n < 18446744073709551616 := by
    have h1 := ob_lt f n
    have h2 : 2 ^ n ≤ 2 ^ 64 := Nat.pow_le_pow_right (by decide) hn
    rw [two64] at h2; omega
  induction j with
  | zero =>
    intro k _ hk
    obtain ⟨k, rfl⟩ : ∃ m, k = m + 1 := ⟨k - 1, by omega⟩
    simp only [vireoref01_Word.l0]
    rw [if_neg (by omega), Nat.pow_zero, Nat.div_one]
  | succ j ih =>
    intro k hj hk
    obtain ⟨k, rfl⟩ : ∃ m, k = m + 1 := ⟨k - 1, by omega⟩
    simp only [vireoref01_Word.l0]
    have ej : (((j + 1 : Nat) : Int) - 1) = (j : Int) := by omega
    rw [ej, if_pos (by omega), if_pos (by omega), if_pos (by rw [bl_length]; omega), rd_bl f n j (by omega)]
    have hb : bi (f j) = ((ob f n / 2 ^ j % 2 : Nat) : Int) := by
      rw [bit_at, testBit_ob]; simp [show j < n by omega]
    have hs := div_step (ob f n) j
    have hl : ob f n / 2 ^ j ≤ ob f n := Nat.div_le_self _ _
    have e1 : IntKind.u64.wrap (IntKind.u64.wrap (((ob f n / 2 ^ (j + 1) : Nat) : Int) * 2) + IntKind.u64.wrap (bi (f j))) = ((ob f n / 2 ^ j : Nat) : Int) := by
      rw [hb, u64_id (((ob f n / 2 ^ (j + 1) : Nat) : Int) * 2) (by omega) (by omega), u64_nat _ (by omega), u64_id _ (by omega) (by omega)]
      omega
    have e2 : wrap64 ((j : Int) - 1) = (j : Int) - 1 := w64_id _ (by omega) (by omega)
    rw [e1, e2]
    exact ih k (by omega) (by omega)
theorem vireoref01_Word_is (f : Nat → Bool) (n : Nat) (hn : n ≤ 64) (k : Nat) (hk : 65 ≤ k) : vireoref01_Word.f k (bl f n) = some ((ob f n : Nat) : Int) := by
  unfold vireoref01_Word.f
  have e : (mn ((bl f n).length : Int) 64) - 1 = (n : Int) - 1 := by
    rw [bl_length]; unfold mn; split <;> omega
  have h := Word_l f n hn n k (Nat.le_refl _) (by omega)
  rw [Nat.div_eq_of_lt (ob_lt f n)] at h
  rw [e]
  exact h
theorem ref_Sext_l (x : Nat) (n : Nat) (h0 : 1 ≤ n) (h1 : n ≤ 63) (d : Nat) : ∀ (k i : Nat), i + d = 64 → n ≤ i → d + 66 ≤ k →
    vireoref01_Sext.l0 k (n : Int) (bl (fun j => if n ≤ j ∧ j < i then x.testBit (n - 1) else x.testBit j) 64) (i : Int) = some ((sextW x (n : Int) : Nat) : Int) := by
  induction d with
  | zero =>
    intro k i hi h2 hk
    obtain ⟨k, rfl⟩ : ∃ m, k = m + 1 := ⟨k - 1, by omega⟩
    simp only [vireoref01_Sext.l0]
    rw [if_neg (by omega), vireoref01_Word_is _ 64 (by omega) k (by omega)]
    simp only [Option.bind_some]
    unfold sextW
    rw [if_neg (by omega), if_neg (by omega), Int.toNat_natCast]
    congr 2
    apply ob_congr
    intro j hj
    by_cases h3 : j < n
    · rw [if_neg (by omega), if_pos h3]
    · rw [if_pos (by omega), if_neg h3]
  | succ d ih =>
    intro k i hi h2 hk
    obtain ⟨k, rfl⟩ : ∃ m, k = m + 1 := ⟨k - 1, by omega⟩
    simp only [vireoref01_Sext.l0]
    have e1 : wrap64 ((n : Int) - 1) = ((n - 1 : Nat) : Int) := by rw [w64_id _ (by omega) (by omega)]; omega
    have e3 : wrap64 ((i : Int) + 1) = ((i + 1 : Nat) : Int) := w64_nat (i + 1) (by omega)
    rw [if_pos (by omega), e1, if_pos (by omega), if_pos (by rw [bl_length]; omega), if_pos (by omega), if_pos (by rw [bl_length]; omega), e3, rd_bl _ 64 (n - 1) (by omega), Int.toNat_natCast, bl_set, if_neg (by omega)]
    have e4 : (fun j => if j = i then x.testBit (n - 1) else if n ≤ j ∧ j < i then x.testBit (n - 1) else x.testBit j) = (fun j => if n ≤ j ∧ j < i + 1 then x.testBit (n - 1) else x.testBit j) := by
      funext j
      by_cases h3 : j = i
      · rw [if_pos h3, if_pos (by omega)]
      · rw [if_neg h3]
        by_cases h4 : n ≤ j ∧ j < i
        · rw [if_pos h4, if_pos (by omega)]
        · rw [if_neg h4, if_neg (by omega)]
    rw [e4]
    exact ih k (i + 1) (by omega) (by omega) (by omega)
theorem vireoref01_Sext_is (x : Nat) (hx : x < 18446744073709551616) (n : Int) (k : Nat) (hk : 140 ≤ k) : vireoref01_Sext.f k (x : Int) n = some ((sextW x n : Nat) : Int) := by
  unfold vireoref01_Sext.f
  by_cases h0 : n < 1
  · rw [if_pos h0]; unfold sextW; rw [if_pos (by omega)]; rfl
  · rw [if_neg h0]
    by_cases h1 : n > 63
    · rw [if_pos h1]; unfold sextW; rw [if_neg (by omega), if_pos (by omega)]
    · rw [if_neg h1, vireoref01_Bits_is x hx k (by omega)]
      simp only [Option.bind_some]
      obtain ⟨m, rfl⟩ := Int.eq_ofNat_of_zero_le (a := n) (by omega)
      have h := ref_Sext_l x m (by omega) (by omega) (64 - m) k m (by omega) (by omega) (by omega)
      rw [show (fun j => if m ≤ j ∧ j < m then x.testBit (m - 1) else x.testBit j) = x.testBit from by funext j; rw [if_neg (by omega)]] at h
      exact h
theorem sext32_val (x : Nat) : sextW x 32 = if x / 2147483648 % 2 = 1 then x % 4294967296 + 18446744069414584320 else x % 4294967296 := by
  have e : sextW x 32 = if x.testBit 31 then x % 4294967296 + 18446744069414584320 else x % 4294967296 := by
    unfold sextW
    rw [if_neg (by omega), if_neg (by omega)]
    show ob (fun i => x.testBit (if i < 32 then i else 31)) 64 = _
    have hlt : x % 4294967296 < 2 ^ 32 := Nat.mod_lt _ (by decide)
    apply eq64 (ob64_lt _)
    · split <;> omega
    · intro i hi
      rw [testBit_ob]
      by_cases hs : x.testBit 31 = true
      · rw [if_pos hs]
        have e3 : x % 4294967296 + 18446744069414584320 = 2 ^ 32 * (2 ^ 32 - 1) + x % 4294967296 := by omega
        rw [e3, Nat.testBit_two_pow_mul_add _ hlt]
        rw [show (4294967296 : Nat) = 2 ^ 32 from rfl, Nat.testBit_mod_two_pow, Nat.testBit_two_pow_sub_one]
        by_cases h : i < 32
        · simp [h, hi]
        · simp [h, hi, hs]; omega
      · rw [if_neg hs, show (4294967296 : Nat) = 2 ^ 32 from rfl, Nat.testBit_mod_two_pow]
        by_cases h : i < 32
        · simp [h, hi]
        · simp [h, hi]; simpa using hs
  rw [e, Nat.testBit_eq_decide_div_mod_eq]
  by_cases hs : x / 2147483648 % 2 = 1
  · rw [if_pos hs, if_pos (by rw [decide_eq_true_iff]; exact hs)]
  · rw [if_neg hs, if_neg (by rw [decide_eq_true_iff]; exact hs)]
theorem sext32_lt (x : Nat) : sextW x 32 < 18446744073709551616 := by rw [sext32_val]; split <;> omega
theorem sext32_low {x y : Nat} (h : x % 4294967296 = y % 4294967296) : sextW x 32 = sextW y 32 := by
  rw [sext32_val, sext32_val]
  have : x / 2147483648 % 2 = y / 2147483648 % 2 := by omega
  rw [this, h]
theorem sext32_mod (x : Nat) : sextW x 32 % 4294967296 = x % 4294967296 := by rw [sext32_val]; split <;> omega
theorem sext32_twice (x : Nat) : sextW (sextW x 32) 32 = sextW x 32 := sext32_low (sext32_mod x)
/-- A word as a number with its sign. -/
def sI (a : Nat) : Int := if 9223372036854775808 ≤ a then (a : Int) - 18446744073709551616 else a
theorem wrap64_sI (a : Nat) (ha : a < 18446744073709551616) : wrap64 (a : Int) = sI a := by unfold wrap64 sI; split <;> omega
theorem pow_split (n w : Nat) (h : n ≤ w) : 2 ^ n * 2 ^ (w - n) = 2 ^ w := by rw [← Nat.pow_add]; congr 1; omega
theorem eqw {x y w : Nat} (hw : w ≤ 64) (hx : x < 2 ^ w) (hy : y < 2 ^ w) (h : ∀ i, i < w → x.testBit i = y.testBit i) : x = y := eq_of_bits hx hy h
/-- To the right, the sign above. -/
def sarW (a n w : Nat) : Nat := if a.testBit (w - 1) then a % 2 ^ w / 2 ^ n + (2 ^ w - 2 ^ (w - n)) else a % 2 ^ w / 2 ^ n
theorem shr_lt (a n w : Nat) (hn : n ≤ w) : a % 2 ^ w / 2 ^ n < 2 ^ (w - n) := by
  rw [Nat.div_lt_iff_lt_mul (Nat.two_pow_pos n), Nat.mul_comm, pow_split n w hn]
  exact Nat.mod_lt _ (Nat.two_pow_pos w)
theorem sarW_lt (a n w : Nat) (hn : n ≤ w) : sarW a n w < 2 ^ w := by
  have h1 := shr_lt a n w hn
  have h2 : 2 ^ (w - n) ≤ 2 ^ w := Nat.pow_le_pow_right (by decide) (by omega)
  unfold sarW
  split <;> omega
theorem tb_sarW (a n w i : Nat) (hn : n < w) (hi : i < w) : (sarW a n w).testBit i = a.testBit (if i + n < w then i + n else w - 1) := by
  have h1 := shr_lt a n w (by omega)
  unfold sarW
  by_cases hs : a.testBit (w - 1) = true
  · rw [if_pos hs]
    have e : a % 2 ^ w / 2 ^ n + (2 ^ w - 2 ^ (w - n)) = 2 ^ (w - n) * (2 ^ n - 1) + a % 2 ^ w / 2 ^ n := by
      rw [Nat.mul_sub, Nat.mul_one, Nat.mul_comm (2 ^ (w - n)), pow_split n w (by omega)]
      omega
    rw [e, Nat.testBit_two_pow_mul_add _ h1]
    by_cases c : i + n < w
    · rw [if_pos c, if_pos (by omega), tb_shr, Nat.testBit_mod_two_pow, Nat.add_comm n i, decide_eq_true c, Bool.true_and]
    · rw [if_neg c, if_neg (by omega), Nat.testBit_two_pow_sub_one, hs]
      exact decide_eq_true (by omega)
  · rw [if_neg hs, tb_shr, Nat.testBit_mod_two_pow, Nat.add_comm n i]
    by_cases c : i + n < w
    · rw [if_pos c, decide_eq_true c, Bool.true_and]
    · rw [if_neg c, decide_eq_false c, Bool.false_and]
      simpa using hs
theorem left_l (a n w : Nat) (hw : w ≤ 64) (hn : n < w) (d : Nat) : ∀ (k i : Nat), i + d = w → d + 66 ≤ k →
    vireoref05_left.l0 k (n : Int) (w : Int) (bl a.testBit 64) (bl (fun j => if j < n then false else a.testBit (j - n)) i) (i : Int) = some ((a * 2 ^ n % 2 ^ w : Nat) : Int) := by
  induction d with
  | zero =>
    intro k i hi hk
    obtain ⟨k, rfl⟩ : ∃ m, k = m + 1 := ⟨k - 1, by omega⟩
    obtain rfl : i = w := by omega
    simp only [vireoref05_left.l0]
    rw [if_neg (by omega), vireoref01_Word_is _ i hw k (by omega), Option.bind_some]
    congr 2
    apply eq_of_bits (ob_lt _ _) (Nat.mod_lt _ (Nat.two_pow_pos _))
    intro j hj
    rw [testBit_ob, Nat.testBit_mod_two_pow, Nat.testBit_mul_two_pow]
    by_cases c : j < n
    · rw [if_pos c, decide_eq_false (show ¬ n ≤ j by omega)]; simp
    · rw [if_neg c, decide_eq_true (show n ≤ j by omega)]; simp
  | succ d ih =>
    intro k i hi hk
    obtain ⟨k, rfl⟩ : ∃ m, k = m + 1 := ⟨k - 1, by omega⟩
    simp only [vireoref05_left.l0]
    have e3 : wrap64 ((i : Int) + 1) = ((i + 1 : Nat) : Int) := w64_nat (i + 1) (by omega)
    have hn2 := ih k (i + 1) (by omega) (by omega)
    rw [bl_succ _ i] at hn2
    rw [if_pos (by omega), e3]
    by_cases c : i < n
    · rw [if_pos (by omega), if_pos (by rw [bl_length]; omega)]
      rw [if_pos c] at hn2
      exact hn2
    · have e4 : wrap64 ((i : Int) - (n : Int)) = ((i - n : Nat) : Int) := by rw [w64_id _ (by omega) (by omega)]; omega
      rw [if_neg c] at hn2
      rw [if_neg (by omega), e4, if_pos (by omega), if_pos (by rw [bl_length]; omega), if_pos (by rw [bl_length]; omega), rd_bl _ 64 (i - n) (by omega)]
      exact hn2
theorem vireoref05_left_is (a n w : Nat) (ha : a < 18446744073709551616) (hw : w ≤ 64) (hn : n < w) (k : Nat) (hk : 140 ≤ k) : vireoref05_left.f k (a : Int) (n : Int) (w : Int) = some ((a * 2 ^ n % 2 ^ w : Nat) : Int) := by
  unfold vireoref05_left.f
  rw [vireoref01_Bits_is a ha k (by omega), Option.bind_some]
  exact left_l a n w hw hn w k 0 (by omega) (by omega)
def rightBits (a n w : Nat) (sign : Bool) (i : Nat) : Bool := if i + n < w then a.testBit (i + n) else (sign && a.testBit (w - 1))
theorem right_l (a n w : Nat) (sign : Bool) (hw : w ≤ 64) (hn : n < w) (d : Nat) : ∀ (k i : Nat), i + d = w → d + 66 ≤ k →
    vireoref05_right.l0 k (n : Int) (w : Int) sign (bl a.testBit 64) (bl (rightBits a n w sign) i) (i : Int) = some ((ob (rightBits a n w sign) w : Nat) : Int) := by
  induction d with
  | zero =>
    intro k i hi hk
    obtain ⟨k, rfl⟩ : ∃ m, k = m + 1 := ⟨k - 1, by omega⟩
    obtain rfl : i = w := by omega
    simp only [vireoref05_right.l0]
    rw [if_neg (by omega), vireoref01_Word_is _ i hw k (by omega), Option.bind_some]
  | succ d ih =>
    intro k i hi hk
    obtain ⟨k, rfl⟩ : ∃ m, k = m + 1 := ⟨k - 1, by omega⟩
    simp only [vireoref05_right.l0]
    have e3 : wrap64 ((i : Int) + 1) = ((i + 1 : Nat) : Int) := w64_nat (i + 1) (by omega)
    have hn2 := ih k (i + 1) (by omega) (by omega)
    have e4 : wrap64 ((i : Int) + (n : Int)) = ((i + n : Nat) : Int) := w64_nat (i + n) (by omega)
    have e5 : wrap64 ((w : Int) - 1) = ((w - 1 : Nat) : Int) := by rw [w64_id _ (by omega) (by omega)]; omega
    rw [bl_succ _ i] at hn2
    rw [if_pos (by omega), e3, e4, e5]
    by_cases c : i + n < w
    · rw [if_pos (by omega), if_pos (by omega), if_pos (by rw [bl_length]; omega), if_pos (by rw [bl_length]; omega), rd_bl _ 64 (i + n) (by omega)]
      rw [show rightBits a n w sign i = a.testBit (i + n) by unfold rightBits; rw [if_pos c]] at hn2
      exact hn2
    · rw [if_neg (by omega)]
      rw [show rightBits a n w sign i = (sign && a.testBit (w - 1)) by unfold rightBits; rw [if_neg c]] at hn2
      cases sign
      · rw [if_neg (by decide), if_pos (by rw [bl_length]; omega)]
        exact hn2
      · rw [if_pos rfl, if_pos (by omega), if_pos (by rw [bl_length]; omega), if_pos (by rw [bl_length]; omega), rd_bl _ 64 (w - 1) (by omega)]
        exact hn2
theorem vireoref05_right_u (a n w : Nat) (ha : a < 18446744073709551616) (hw : w ≤ 64) (hn : n < w) (k : Nat) (hk : 140 ≤ k) : vireoref05_right.f k (a : Int) (n : Int) (w : Int) false = some ((a % 2 ^ w / 2 ^ n : Nat) : Int) := by
  unfold vireoref05_right.f
  rw [vireoref01_Bits_is a ha k (by omega), Option.bind_some]
  refine (right_l a n w false hw hn w k 0 (by omega) (by omega)).trans ?_
  congr 2
  apply eq_of_bits (ob_lt _ _) (Nat.lt_of_le_of_lt (Nat.div_le_self _ _) (Nat.mod_lt _ (Nat.two_pow_pos _)))
  intro j hj
  rw [testBit_ob, tb_shr, Nat.testBit_mod_two_pow, decide_eq_true hj, Nat.add_comm n j]
  unfold rightBits
  by_cases c : j + n < w
  · rw [if_pos c, decide_eq_true c]
  · rw [if_neg c, decide_eq_false c]; rfl
theorem vireoref05_right_s (a n w : Nat) (ha : a < 18446744073709551616) (hw : w ≤ 64) (hn : n < w) (k : Nat) (hk : 140 ≤ k) : vireoref05_right.f k (a : Int) (n : Int) (w : Int) true = some ((sarW a n w : Nat) : Int) := by
  unfold vireoref05_right.f
  rw [vireoref01_Bits_is a ha k (by omega), Option.bind_some]
  refine (right_l a n w true hw hn w k 0 (by omega) (by omega)).trans ?_
  congr 2
  apply eq_of_bits (ob_lt _ _) (sarW_lt a n w (by omega))
  intro j hj
  rw [testBit_ob, tb_sarW a n w j hn hj, decide_eq_true hj, Bool.true_and]
  unfold rightBits
  by_cases c : j + n < w
  · rw [if_pos c, if_pos c]
  · rw [if_neg c, if_neg c, Bool.true_and]
def turnW (a : Nat) : Nat := if 9223372036854775808 ≤ a then a - 9223372036854775808 else a + 9223372036854775808
theorem tb63 (a : Nat) (ha : a < 18446744073709551616) : a.testBit 63 = decide (9223372036854775808 ≤ a) := by
  rw [Nat.testBit_eq_decide_div_mod_eq]
  apply decide_eq_decide.mpr
  omega
theorem turned_ob (a : Nat) (ha : a < 18446744073709551616) : ob (fun j => if j = 63 then !a.testBit 63 else a.testBit j) 64 = turnW a := by
  have h63 := tb63 a ha
  apply eq64 (ob64_lt _)
  · unfold turnW; split <;> omega
  · intro i hi
    rw [testBit_ob, decide_eq_true hi, Bool.true_and]
    unfold turnW
    by_cases c : 9223372036854775808 ≤ a
    · rw [if_pos c]
      by_cases hi2 : i = 63
      · subst hi2
        rw [if_pos rfl, h63, decide_eq_true c, tb63 _ (by omega), decide_eq_false (by omega)]; rfl
      · rw [if_neg hi2]
        have e : a = 2 ^ 63 * 1 + (a - 9223372036854775808) := by omega
        conv => lhs; rw [e]
        rw [Nat.testBit_two_pow_mul_add _ (by omega), if_pos (by omega)]
    · rw [if_neg c]
      by_cases hi2 : i = 63
      · subst hi2
        rw [if_pos rfl, h63, decide_eq_false c, tb63 _ (by omega), decide_eq_true (by omega)]; rfl
      · rw [if_neg hi2]
        have e : a + 9223372036854775808 = 2 ^ 63 * 1 + a := by omega
        rw [e, Nat.testBit_two_pow_mul_add _ (by omega), if_pos (by omega)]
theorem turned_is (a : Nat) (ha : a < 18446744073709551616) (k : Nat) (hk : 140 ≤ k) : vireoref05_turned.f k (a : Int) = some ((turnW a : Nat) : Int) := by
  unfold vireoref05_turned.f
  have e1 : wrap64 (1 - rd (bl a.testBit 64) 63) = bi (!a.testBit 63) := by
    rw [show (63 : Int) = ((63 : Nat) : Int) from rfl, rd_bl _ 64 63 (by omega)]
    cases a.testBit 63 <;> decide +kernel
  rw [vireoref01_Bits_is a ha k (by omega), Option.bind_some, if_pos (by rw [bl_length]; omega), e1, show (63 : Int).toNat = 63 from rfl, bl_set, vireoref01_Word_is _ 64 (by omega) k (by omega), Option.bind_some, turned_ob a ha]
theorem vireoref05_Less_is (a b : Nat) (ha : a < 18446744073709551616) (hb : b < 18446744073709551616) (k : Nat) (hk : 140 ≤ k) : vireoref05_Less.f k (a : Int) (b : Int) = some (decide (sI a < sI b)) := by
  unfold vireoref05_Less.f
  rw [turned_is a ha k hk, Option.bind_some, turned_is b hb k hk, Option.bind_some]
  congr 1
  apply decide_eq_decide.mpr
  unfold turnW sI
  split <;> split <;> omega
def bwW (a b : Nat) (how : Int) : Nat := if how = 0 then a &&& b else if how = 1 then a ||| b else a ^^^ b
theorem bwW_lt (a b : Nat) (how : Int) (ha : a < 18446744073709551616) (hb : b < 18446744073709551616) : bwW a b how < 18446744073709551616 := by
  unfold bwW
  split
  · exact and_lt ha
  · split
    · exact or_lt ha hb
    · exact xor_lt ha hb
theorem bitwise_l (a b : Nat) (ha : a < 18446744073709551616) (hb : b < 18446744073709551616) (how : Int) (d : Nat) : ∀ (k i : Nat), i + d = 64 → d + 66 ≤ k →
    vireoref05_bitwise.l0 k how (bl a.testBit 64) (bl b.testBit 64) (bl (bwW a b how).testBit i) (i : Int) = some ((bwW a b how : Nat) : Int) := by
  induction d with
  | zero =>
    intro k i hi hk
    obtain ⟨k, rfl⟩ : ∃ m, k = m + 1 := ⟨k - 1, by omega⟩
    obtain rfl : i = 64 := by omega
    simp only [vireoref05_bitwise.l0]
    rw [if_neg (by omega), vireoref01_Word_is _ 64 (by omega) k (by omega), Option.bind_some, ob64 (bwW_lt a b how ha hb)]
  | succ d ih =>
    intro k i hi hk
    obtain ⟨k, rfl⟩ : ∃ m, k = m + 1 := ⟨k - 1, by omega⟩
    simp only [vireoref05_bitwise.l0]
    have e3 : wrap64 ((i : Int) + 1) = ((i + 1 : Nat) : Int) := w64_nat (i + 1) (by omega)
    have hn2 := ih k (i + 1) (by omega) (by omega)
    rw [bl_succ _ i] at hn2
    have hlen : (bl (bwW a b how).testBit i).length < 17592186044416 := by rw [bl_length]; omega
    rw [if_pos (by omega), if_pos (by omega), if_pos (by rw [bl_length]; omega), if_pos (by rw [bl_length]; omega), if_pos hlen, if_pos hlen, if_pos hlen, e3, rd_bl _ 64 i (by omega), rd_bl _ 64 i (by omega)]
    have hb3 : (bwW a b how).testBit i = if how = 0 then (a.testBit i && b.testBit i) else if how = 1 then (a.testBit i || b.testBit i) else (a.testBit i ^^ b.testBit i) := by
      unfold bwW
      split
      · rw [Nat.testBit_and]
      · split
        · rw [Nat.testBit_or]
        · rw [Nat.testBit_xor]
    rw [hb3] at hn2
    by_cases c0 : how = 0
    · rw [if_pos c0] at hn2 ⊢
      rw [show wrap64 (Int.tdiv (wrap64 (bi (a.testBit i) + bi (b.testBit i))) 2) = bi (a.testBit i && b.testBit i) by cases a.testBit i <;> cases b.testBit i <;> decide +kernel]
      exact hn2
    · rw [if_neg c0] at hn2 ⊢
      by_cases c1 : how = 1
      · rw [if_pos c1] at hn2 ⊢
        rw [show mn (wrap64 (bi (a.testBit i) + bi (b.testBit i))) 1 = bi (a.testBit i || b.testBit i) by cases a.testBit i <;> cases b.testBit i <;> decide +kernel]
        exact hn2
      · rw [if_neg c1] at hn2 ⊢
        rw [show Int.tmod (wrap64 (bi (a.testBit i) + bi (b.testBit i))) 2 = bi (a.testBit i ^^ b.testBit i) by cases a.testBit i <;> cases b.testBit i <;> decide +kernel]
        exact hn2
theorem vireoref05_bitwise_is (a b : Nat) (ha : a < 18446744073709551616) (hb : b < 18446744073709551616) (how : Int) (k : Nat) (hk : 140 ≤ k) : vireoref05_bitwise.f k (a : Int) (b : Int) how = some ((bwW a b how : Nat) : Int) := by
  unfold vireoref05_bitwise.f
  rw [vireoref01_Bits_is a ha k (by omega), Option.bind_some, vireoref01_Bits_is b hb k (by omega), Option.bind_some]
  exact bitwise_l a b ha hb how 64 k 0 (by omega) (by omega)
theorem amo_Wide_is (op : Int) : amo_Wide.f op = some (decide (84 ≤ op ∧ op ≤ 94)) := by
  unfold amo_Wide.f
  by_cases h : op ≥ 84
  · rw [if_pos h]; exact congrArg some (decide_eq_decide.mpr ⟨fun x => ⟨h, x⟩, fun x => x.2⟩)
  · rw [if_neg h]; exact congrArg some (decide_eq_false (fun x => h x.1)).symm
def names07 : List S47 := [⟨73, 84⟩, ⟨74, 85⟩, ⟨75, 86⟩, ⟨76, 87⟩, ⟨77, 88⟩, ⟨78, 89⟩, ⟨79, 90⟩, ⟨80, 91⟩, ⟨81, 92⟩, ⟨82, 93⟩, ⟨83, 94⟩]
def ofI (i : Int) (op : Int) : Int × Bool := if 73 + i ≤ op ∧ op ≤ 83 then (op - 73, false) else if 84 + i ≤ op ∧ op ≤ 94 then (op - 84, true) else (-1, false)
theorem Of_l (op : Int) (d : Nat) : ∀ (k i : Nat), i + d = 11 → d < k → vireoref07_Of.l0 k op names07 (i : Int) = some (ofI i op) := by
  induction d with
  | zero =>
    intro k i hi hk
    obtain ⟨k, rfl⟩ : ∃ m, k = m + 1 := ⟨k - 1, by omega⟩
    obtain rfl : i = 11 := by omega
    simp only [vireoref07_Of.l0]
    rw [if_neg (by decide)]
    unfold ofI
    rw [if_neg (by omega), if_neg (by omega)]
  | succ d ih =>
    intro k i hi hk
    obtain ⟨k, rfl⟩ : ∃ m, k = m + 1 := ⟨k - 1, by omega⟩
    have hn := ih k (i + 1) (by omega) (by omega)
    have q3 : wrap64 ((i : Int) + 1) = ((i + 1 : Nat) : Int) := w64_nat (i + 1) (by omega)
    have q4 : (i : Int) < (names07.length : Int) := by show (i : Int) < 11; omega
    have hrd : (rd_T47 names07 (i : Int)).f0 = 73 + (i : Int) ∧ (rd_T47 names07 (i : Int)).f1 = 84 + (i : Int) := by
      have : i = 0 ∨ i = 1 ∨ i = 2 ∨ i = 3 ∨ i = 4 ∨ i = 5 ∨ i = 6 ∨ i = 7 ∨ i = 8 ∨ i = 9 ∨ i = 10 := by omega
      rcases this with rfl | rfl | rfl | rfl | rfl | rfl | rfl | rfl | rfl | rfl | rfl <;> exact ⟨rfl, rfl⟩
    simp only [vireoref07_Of.l0]
    rw [if_pos q4, if_pos (by omega), hrd.1, hrd.2, q3, hn]
    unfold ofI
    by_cases c1 : 73 + (i : Int) = op
    · rw [if_pos c1, if_pos (by omega)]; congr 2; omega
    · rw [if_neg c1]
      by_cases c2 : 84 + (i : Int) = op
      · rw [if_pos c2, if_neg (by omega), if_pos (by omega)]; congr 2; omega
      · rw [if_neg c2]
        by_cases c3 : 73 + (i : Int) ≤ op ∧ op ≤ 83
        · rw [if_pos c3, if_pos (by omega)]
        · rw [if_neg c3, if_neg (by omega)]
          by_cases c4 : 84 + (i : Int) ≤ op ∧ op ≤ 94
          · rw [if_pos c4, if_pos (by omega)]
          · rw [if_neg c4, if_neg (by omega)]
theorem vireoref07_Of_is (op : Int) (k : Nat) (hk : 12 ≤ k) : vireoref07_Of.f k op = some (ofI 0 op) := by
  have h := Of_l op 11 k 0 (by omega) (by omega)
  unfold vireoref07_Of.f vireoref07_names.f
  rw [Option.bind_some]
  exact h
theorem getW32 (x : Nat) : getW x 0 32 = x % 4294967296 := by
  unfold getW
  rw [if_pos (by omega), show (0 : Int).toNat = 0 from rfl, Nat.pow_zero, Nat.div_one]
  rfl
/-- As many bits as an operation has. -/
def uW (wide : Bool) (x : Nat) : Nat := if wide then x else x % 4294967296
theorem unsigned_is (op : Int) (x : Nat) (hx : x < 18446744073709551616) : amo_unsigned.f op (x : Int) = some ((uW (decide (84 ≤ op ∧ op ≤ 94)) x : Nat) : Int) := by
  unfold amo_unsigned.f uW
  rw [amo_Wide_is, Option.bind_some, word_Get_is x 0 32 hx, Option.bind_some, getW32]
  split <;> rfl
theorem kind_is (op : Int) (h : -9223372036854775808 ≤ op ∧ op ≤ 9223372036854775807) : amo_kind.f op = some (if 84 ≤ op ∧ op ≤ 94 then op - 11 else op) := by
  unfold amo_kind.f
  rw [amo_Wide_is, Option.bind_some]
  by_cases c : 84 ≤ op ∧ op ≤ 94
  · rw [decide_eq_true c, if_pos rfl, if_pos c, w64_id (op - 84) (by omega) (by omega), w64_id _ (by omega) (by omega)]; congr 1; omega
  · rw [decide_eq_false c, if_neg (by decide), if_neg c]
theorem pick_nat (c : Bool) (a b : Nat) : amo_pick.f c (a : Int) (b : Int) = some (((if c then a else b : Nat)) : Int) := by cases c <;> rfl
theorem one_nat (c : Bool) (a b : Nat) : vireoref07_one.f c (a : Int) (b : Int) = some (((if c then a else b : Nat)) : Int) := by cases c <;> rfl
theorem sI_inj {a b : Nat} (ha : a < 18446744073709551616) (hb : b < 18446744073709551616) (h : sI a = sI b) : a = b := by unfold sI at h; split at h <;> split at h <;> omega
/-- What an operation makes of two words (the two words with their sign, if it has 32 bits); none: it is none. -/
def newW (c : Int) (wide : Bool) (A B : Nat) : Option Nat :=
  if c = 2 then some (uW wide B) else if c = 3 then some (uW wide ((A + B) % 18446744073709551616)) else if c = 4 then some (uW wide (A ^^^ B)) else if c = 5 then some (uW wide (A &&& B)) else if c = 6 then some (uW wide (A ||| B)) else
  if c = 7 then some (uW wide (if decide (sI A < sI B) then A else B)) else if c = 8 then some (uW wide (if decide (sI A > sI B) then A else B)) else if c = 9 then some (uW wide (if decide (uW wide A < uW wide B) then A else B)) else if c = 10 then some (uW wide (if decide (uW wide A > uW wide B) then A else B)) else none
def newR (o : Option Nat) : Int × Bool := match o with
  | some v => ((v : Int), true)
  | none => (0, false)
theorem ite_lt {c : Bool} {a b : Nat} (ha : a < 18446744073709551616) (hb : b < 18446744073709551616) : (if c then a else b) < 18446744073709551616 := by cases c <;> assumption
theorem New_left (op : Int) (A B : Nat) (hA : A < 18446744073709551616) (hB : B < 18446744073709551616) (ho : -9223372036854775808 ≤ op ∧ op ≤ 9223372036854775807) (k : Nat) :
    amo_New.j0 (k + 1) op (A : Int) (B : Int) = some (newR (newW (if 84 ≤ op ∧ op ≤ 94 then op - 84 else op - 73) (decide (84 ≤ op ∧ op ≤ 94)) A B)) := by
  simp only [amo_New.j0]
  have hadd : IntKind.u64.wrap ((A : Int) + B) = (((A + B) % 18446744073709551616 : Nat) : Int) := by rw [IntKind.wrap_u64]; omega
  rw [kind_is op ho, Option.bind_some, wrap64_sI A hA, wrap64_sI B hB, hadd, xor_nat A B hA hB, and_nat A B hA hB, or_nat A B hA hB, unsigned_is op B hB, unsigned_is op A hA, unsigned_is op _ (by omega), unsigned_is op _ (xor_lt hA hB), unsigned_is op _ (and_lt hA), unsigned_is op _ (or_lt hA hB), pick_nat, pick_nat]
  simp only [Option.bind_some]
  have hlt : ∀ x y : Nat, decide ((x : Int) < (y : Int)) = decide (x < y) := fun x y => decide_eq_decide.mpr (by omega)
  have hgt : ∀ x y : Nat, decide ((x : Int) > (y : Int)) = decide (x > y) := fun x y => decide_eq_decide.mpr (by omega)
  rw [hlt, hgt, pick_nat, pick_nat]
  simp only [Option.bind_some]
  rw [unsigned_is op _ (ite_lt hA hB), unsigned_is op _ (ite_lt hA hB), unsigned_is op _ (ite_lt hA hB), unsigned_is op _ (ite_lt hA hB)]
  simp only [Option.bind_some]
  have hc : ∀ z y : Int, y = z + 73 → ((if 84 ≤ op ∧ op ≤ 94 then op - 11 else op) = y ↔ (if 84 ≤ op ∧ op ≤ 94 then op - 84 else op - 73) = z) := fun z y e => by split <;> omega
  have h2 := hc 2 75 rfl; have h3 := hc 3 76 rfl; have h4 := hc 4 77 rfl; have h5 := hc 5 78 rfl; have h6 := hc 6 79 rfl; have h7 := hc 7 80 rfl; have h8 := hc 8 81 rfl; have h9 := hc 9 82 rfl; have h10 := hc 10 83 rfl
  clear hc hlt hgt hadd
  generalize (if 84 ≤ op ∧ op ≤ 94 then op - 11 else op) = t at *
  generalize (if 84 ≤ op ∧ op ≤ 94 then op - 84 else op - 73) = c at *
  generalize decide (84 ≤ op ∧ op ≤ 94) = wide at *
  unfold newW
  by_cases c2 : c = 2
  · rw [if_pos (h2.mpr c2), if_pos c2]; rfl
  rw [if_neg (fun h => c2 (h2.mp h)), if_neg c2]
  by_cases c3 : c = 3
  · rw [if_pos (h3.mpr c3), if_pos c3]; rfl
  rw [if_neg (fun h => c3 (h3.mp h)), if_neg c3]
  by_cases c4 : c = 4
  · rw [if_pos (h4.mpr c4), if_pos c4]; rfl
  rw [if_neg (fun h => c4 (h4.mp h)), if_neg c4]
  by_cases c5 : c = 5
  · rw [if_pos (h5.mpr c5), if_pos c5]; rfl
  rw [if_neg (fun h => c5 (h5.mp h)), if_neg c5]
  by_cases c6 : c = 6
  · rw [if_pos (h6.mpr c6), if_pos c6]; rfl
  rw [if_neg (fun h => c6 (h6.mp h)), if_neg c6]
  by_cases c7 : c = 7
  · rw [if_pos (h7.mpr c7), if_pos c7]; rfl
  rw [if_neg (fun h => c7 (h7.mp h)), if_neg c7]
  by_cases c8 : c = 8
  · rw [if_pos (h8.mpr c8), if_pos c8]; rfl
  rw [if_neg (fun h => c8 (h8.mp h)), if_neg c8]
  by_cases c9 : c = 9
  · rw [if_pos (h9.mpr c9), if_pos c9]; rfl
  rw [if_neg (fun h => c9 (h9.mp h)), if_neg c9]
  by_cases c10 : c = 10
  · rw [if_pos (h10.mpr c10), if_pos c10]; rfl
  rw [if_neg (fun h => c10 (h10.mp h)), if_neg c10]
  rfl
theorem amo_New_is (op : Int) (a b : Nat) (ha : a < 18446744073709551616) (hb : b < 18446744073709551616) (ho : -9223372036854775808 ≤ op ∧ op ≤ 9223372036854775807) (k : Nat) :
    amo_New.f (k + 1) op (a : Int) (b : Int) = some (newR (newW (if 84 ≤ op ∧ op ≤ 94 then op - 84 else op - 73) (decide (84 ≤ op ∧ op ≤ 94)) (if 84 ≤ op ∧ op ≤ 94 then a else sextW a 32) (if 84 ≤ op ∧ op ≤ 94 then b else sextW b 32))) := by
  unfold amo_New.f
  rw [amo_Wide_is, Option.bind_some]
  by_cases c : 84 ≤ op ∧ op ≤ 94
  · have h := New_left op a b ha hb ho k
    simp only [c, and_self, decide_true, if_true] at h ⊢
    exact h
  · have h := New_left op (sextW a 32) (sextW b 32) (sext32_lt a) (sext32_lt b) ho k
    simp only [c, decide_false, Bool.false_eq_true, if_false] at h ⊢
    rw [word_Sext32_is a ha, Option.bind_some, word_Sext32_is b hb, Option.bind_some]
    exact h
theorem Do_xor (a b : Nat) (ha : a < 18446744073709551616) (hb : b < 18446744073709551616) (k : Nat) (hk : 170 ≤ k) : vireoref05_Do.f k 36 (a : Int) (b : Int) = some (((a ^^^ b : Nat) : Int), true) := by
  obtain ⟨m, rfl⟩ : ∃ m, k = m + 20 := ⟨k - 20, by omega⟩
  have e2 : vireoref05_Do.f (m + 20) 36 (a : Int) (b : Int) = (vireoref05_bitwise.f (m + 11) (a : Int) (b : Int) 2).bind fun t => some (t, true) := rfl
  rw [e2, vireoref05_bitwise_is a b ha hb 2 _ (by omega)]; rfl
theorem Do_and (a b : Nat) (ha : a < 18446744073709551616) (hb : b < 18446744073709551616) (k : Nat) (hk : 170 ≤ k) : vireoref05_Do.f k 40 (a : Int) (b : Int) = some (((a &&& b : Nat) : Int), true) := by
  obtain ⟨m, rfl⟩ : ∃ m, k = m + 20 := ⟨k - 20, by omega⟩
  have e2 : vireoref05_Do.f (m + 20) 40 (a : Int) (b : Int) = (vireoref05_bitwise.f (m + 13) (a : Int) (b : Int) 0).bind fun t => some (t, true) := rfl
  rw [e2, vireoref05_bitwise_is a b ha hb 0 _ (by omega)]; rfl
theorem Do_or (a b : Nat) (ha : a < 18446744073709551616) (hb : b < 18446744073709551616) (k : Nat) (hk : 170 ≤ k) : vireoref05_Do.f k 39 (a : Int) (b : Int) = some (((a ||| b : Nat) : Int), true) := by
  obtain ⟨m, rfl⟩ : ∃ m, k = m + 20 := ⟨k - 20, by omega⟩
  have e2 : vireoref05_Do.f (m + 20) 39 (a : Int) (b : Int) = (vireoref05_bitwise.f (m + 12) (a : Int) (b : Int) 1).bind fun t => some (t, true) := rfl
  rw [e2, vireoref05_bitwise_is a b ha hb 1 _ (by omega)]; rfl
theorem tm32 (a : Nat) : Int.tmod (a : Int) 4294967296 = ((a % 4294967296 : Nat) : Int) := tmod_nat a 4294967296
theorem uW_lt {w : Bool} {x : Nat} (h : x < 18446744073709551616) : uW w x < 18446744073709551616 := by unfold uW; split <;> omega
theorem uW_uW (w : Bool) (x : Nat) : uW w (uW w x) = uW w x := by unfold uW; cases w <;> simp
theorem uW_add (w : Bool) (A B : Nat) : uW w ((uW w A + uW w B) % 18446744073709551616) = uW w ((A + B) % 18446744073709551616) := by unfold uW; cases w <;> simp <;> omega
theorem uW_xor (w : Bool) (A B : Nat) : uW w (uW w A ^^^ uW w B) = uW w (A ^^^ B) := by
  unfold uW; cases w
  · simp only [Bool.false_eq_true, if_false]; rw [show (4294967296 : Nat) = 2 ^ 32 from rfl, Nat.xor_mod_two_pow, Nat.mod_mod, Nat.mod_mod, ← Nat.xor_mod_two_pow]
  · rfl
theorem uW_and (w : Bool) (A B : Nat) : uW w (uW w A &&& uW w B) = uW w (A &&& B) := by
  unfold uW; cases w
  · simp only [Bool.false_eq_true, if_false]; rw [show (4294967296 : Nat) = 2 ^ 32 from rfl, Nat.and_mod_two_pow, Nat.mod_mod, Nat.mod_mod, ← Nat.and_mod_two_pow]
  · rfl
theorem uW_or (w : Bool) (A B : Nat) : uW w (uW w A ||| uW w B) = uW w (A ||| B) := by
  unfold uW; cases w
  · simp only [Bool.false_eq_true, if_false]; rw [show (4294967296 : Nat) = 2 ^ 32 from rfl, Nat.or_mod_two_pow, Nat.mod_mod, Nat.mod_mod, ← Nat.or_mod_two_pow]
  · rfl
/-- The reference's narrowing of its word. -/
theorem narrow_is (w : Bool) (x : Nat) : (if w = true then some ((x : Int), true) else some (Int.tmod (x : Int) 4294967296, true)) = some (newR (some (uW w x))) := by
  rw [tm32]; cases w <;> rfl
theorem New_right (c : Int) (wide : Bool) (A B : Nat) (hA : A < 18446744073709551616) (hB : B < 18446744073709551616) (hc : 2 ≤ c ∧ c ≤ 10) (k : Nat) (hk : 180 ≤ k) :
    vireoref07_New.j0 (k + 1) c wide ((uW wide A : Nat) : Int) ((uW wide B : Nat) : Int) (A : Int) (B : Int) = some (newR (newW c wide A B)) := by
  simp only [vireoref07_New.j0]
  have hu := uW_lt (w := wide) hA
  have hv := uW_lt (w := wide) hB
  have hadd : IntKind.u64.wrap (((uW wide A : Nat) : Int) + ((uW wide B : Nat) : Int)) = (((uW wide A + uW wide B) % 18446744073709551616 : Nat) : Int) := by rw [IntKind.wrap_u64]; omega
  have hlt : ∀ x y : Nat, decide ((x : Int) < (y : Int)) = decide (x < y) := fun x y => decide_eq_decide.mpr (by omega)
  rw [vireoref05_Less_is A B hA hB k (by omega), Option.bind_some, hadd, Do_xor _ _ hu hv k (by omega), Do_and _ _ hu hv k (by omega), Do_or _ _ hu hv k (by omega), hlt, one_nat, one_nat, one_nat, one_nat]
  simp only [Option.bind_some]
  rw [narrow_is, narrow_is, narrow_is, narrow_is, narrow_is, narrow_is, narrow_is, narrow_is, narrow_is, uW_add, uW_xor, uW_and, uW_or, uW_uW]
  clear hadd hlt
  unfold newW
  by_cases c2 : c = 2
  · rw [if_pos c2, if_pos c2]
  rw [if_neg c2, if_neg c2]
  by_cases c3 : c = 3
  · rw [if_pos c3, if_pos c3]
  rw [if_neg c3, if_neg c3]
  by_cases c4 : c = 4
  · rw [if_pos c4, if_pos c4]
  rw [if_neg c4, if_neg c4]
  by_cases c5 : c = 5
  · rw [if_pos c5, if_pos c5]
  rw [if_neg c5, if_neg c5]
  by_cases c6 : c = 6
  · rw [if_pos c6, if_pos c6]
  rw [if_neg c6, if_neg c6]
  by_cases c7 : c = 7
  · rw [if_pos c7, if_pos c7]
    congr 3
    cases decide (sI A < sI B) <;> simp [uW_uW]
  rw [if_neg c7, if_neg c7]
  by_cases c8 : c = 8
  · rw [if_pos c8, if_pos c8]
    congr 3
    by_cases l : sI A < sI B
    · rw [decide_eq_true l, decide_eq_false (show ¬ sI A > sI B by omega)]; simp [uW_uW]
    · by_cases g : sI A > sI B
      · rw [decide_eq_false l, decide_eq_true g]; simp [uW_uW]
      · rw [decide_eq_false l, decide_eq_false g, sI_inj hA hB (by omega)]; simp [uW_uW]
  rw [if_neg c8, if_neg c8]
  by_cases c9 : c = 9
  · rw [if_pos c9, if_pos c9]
    congr 3
    cases decide (uW wide A < uW wide B) <;> simp [uW_uW]
  rw [if_neg c9, if_neg c9, if_pos (show c = 10 by omega)]
  congr 3
  by_cases l : uW wide A < uW wide B
  · rw [decide_eq_true l, decide_eq_false (show ¬ uW wide A > uW wide B by omega)]; simp [uW_uW]
  · by_cases g : uW wide A > uW wide B
    · rw [decide_eq_false l, decide_eq_true g]; simp [uW_uW]
    · have e : uW wide A = uW wide B := by omega
      rw [decide_eq_false l, decide_eq_false g]; simp [uW_uW, e]
theorem newW_none {c : Int} {w : Bool} {A B : Nat} (h : c < 2 ∨ 10 < c) : newW c w A B = none := by
  unfold newW
  rw [if_neg (by omega), if_neg (by omega), if_neg (by omega), if_neg (by omega), if_neg (by omega), if_neg (by omega), if_neg (by omega), if_neg (by omega), if_neg (by omega)]
theorem vireoref07_New_is (op : Int) (a b : Nat) (ha : a < 18446744073709551616) (hb : b < 18446744073709551616) (k : Nat) (hk : 181 ≤ k) :
    vireoref07_New.f (k + 1) op (a : Int) (b : Int) = some (newR (newW (if 84 ≤ op ∧ op ≤ 94 then op - 84 else op - 73) (decide (84 ≤ op ∧ op ≤ 94)) (if 84 ≤ op ∧ op ≤ 94 then a else sextW a 32) (if 84 ≤ op ∧ op ≤ 94 then b else sextW b 32))) := by
  unfold vireoref07_New.f
  rw [vireoref07_Of_is op _ (by omega), Option.bind_some]
  unfold ofI
  by_cases cw : 84 ≤ op ∧ op ≤ 94
  · rw [if_neg (show ¬ (73 + 0 ≤ op ∧ op ≤ 83) by omega), if_pos (show 84 + 0 ≤ op ∧ op ≤ 94 by omega)]
    simp only [cw, and_self, decide_true, if_true]
    by_cases c2 : op - 84 < 2
    · rw [if_pos c2, newW_none (.inl c2)]; rfl
    · rw [if_neg c2]
      exact New_right (op - 84) true a b ha hb (by omega) k (by omega)
  · by_cases cn : 73 ≤ op ∧ op ≤ 83
    · rw [if_pos (show 73 + 0 ≤ op ∧ op ≤ 83 by omega)]
      simp only [cw, decide_false, if_false, Bool.false_eq_true]
      by_cases c2 : op - 73 < 2
      · rw [if_pos c2, newW_none (.inl c2)]; rfl
      · rw [if_neg c2, tm32, tm32, vireoref01_Sext_is _ (by omega) 32 _ (by omega), Option.bind_some, vireoref01_Sext_is _ (by omega) 32 _ (by omega), Option.bind_some]
        have h := New_right (op - 73) false (sextW a 32) (sextW b 32) (sext32_lt a) (sext32_lt b) (by omega) k (by omega)
        have e1 : uW false (sextW a 32) = a % 4294967296 := sext32_mod a
        have e2 : uW false (sextW b 32) = b % 4294967296 := sext32_mod b
        rw [e1, e2] at h
        rw [sext32_low (x := a % 4294967296) (y := a) (by omega), sext32_low (x := b % 4294967296) (y := b) (by omega)]
        exact h
    · rw [if_neg (show ¬ (73 + 0 ≤ op ∧ op ≤ 83) by omega), if_neg (show ¬ (84 + 0 ≤ op ∧ op ≤ 94) by omega), if_pos (show ((-1 : Int), false).1 < 2 by decide)]
      simp only [cw, decide_false, if_false]
      rw [newW_none (by omega)]; rfl
theorem amo_Old_is (op : Int) (a : Nat) (ha : a < 18446744073709551616) : amo_Old.f op (a : Int) = some (((if 84 ≤ op ∧ op ≤ 94 then a else sextW a 32 : Nat)) : Int) := by
  unfold amo_Old.f
  rw [amo_Wide_is, Option.bind_some, word_Sext32_is a ha, Option.bind_some]
  by_cases c : 84 ≤ op ∧ op ≤ 94
  · rw [decide_eq_true c, if_pos rfl, if_pos c]
  · rw [decide_eq_false c, if_neg (by decide), if_neg c]
theorem vireoref07_Old_is (op : Int) (a : Nat) (ha : a < 18446744073709551616) (k : Nat) (hk : 180 ≤ k) : vireoref07_Old.f k op (a : Int) = some (((if 84 ≤ op ∧ op ≤ 94 then a else sextW a 32 : Nat)) : Int) := by
  unfold vireoref07_Old.f
  rw [vireoref07_Of_is op _ (by omega), Option.bind_some, vireoref01_Sext_is a ha 32 _ (by omega), Option.bind_some]
  unfold ofI
  by_cases c : 84 ≤ op ∧ op ≤ 94
  · rw [if_neg (show ¬ (73 + 0 ≤ op ∧ op ≤ 83) by omega), if_pos (show 84 + 0 ≤ op ∧ op ≤ 94 by omega), if_pos rfl, if_pos c]
  · by_cases cn : 73 + 0 ≤ op ∧ op ≤ 83
    · rw [if_pos cn, if_neg (show ¬ ((op - 73, false).2 = true) from fun h => by cases h), if_neg c]
    · rw [if_neg cn, if_neg (show ¬ (84 + 0 ≤ op ∧ op ≤ 94) by omega), if_neg (show ¬ (((-1 : Int), false).2 = true) from fun h => by cases h), if_neg c]
end Go.Proofs.Ytkcbcehdpcjmhaa.Pure
