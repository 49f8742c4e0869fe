import Derived.Test.YtomomaldkliofaaPAllx1
import Derived.Test.YtomomaldkliofaaPAllx2
import Derived.Test.YtomomaldkliofaaPAllx3
import Derived.Test.YtomomaldkliofaaPAllx4
import Derived.OpenShut
import Derived.Laws.BitsAllLaws
import Derived.Test.YtomomaldkliofaaVw
namespace Go.Proofs.Ytomomaldkliofaa.Pure
open Go.RowKit Go.Proofs.Ytomomaldkliofaa.PAll Go.Proofs.YtomomaldkliofaaW.PrintWords Go.Proofs.YtomomaldkliofaaW.PrintLast
open Go.Proofs.Ytomomaldkliofaa.Vw
set_option linter.unusedVariables false
set_option linter.unusedSimpArgs false

theorem u64_nat (n : Nat) (h : n < 18446744073709551616) : IntKind.u64.wrap (n : Int) = (n : Int) := by rw [IntKind.wrap_u64]; omega
theorem u64_id (n : Int) (h0 : 0 ≤ n) (h : n < 18446744073709551616) : IntKind.u64.wrap n = n := by rw [IntKind.wrap_u64]; omega
theorem w64_id (n : Int) (h0 : -9223372036854775808 ≤ n) (h : n < 9223372036854775808) : wrap64 n = n := by unfold wrap64; omega
theorem w64_nat (n : Nat) (h : n < 9223372036854775808) : wrap64 (n : Int) = (n : Int) := w64_id _ (by omega) (by omega)
theorem tdiv_nat (a b : Nat) : Int.tdiv (a : Int) (b : Int) = ((a / b : Nat) : Int) := by rw [Int.tdiv_eq_ediv_of_nonneg (by omega)]; simp
theorem tmod_nat (a b : Nat) : Int.tmod (a : Int) (b : Int) = ((a % b : Nat) : Int) := by rw [Int.tmod_eq_emod_of_nonneg (by omega)]; simp
theorem u64_of_wf {n : Int} (h : (Lit.int .u64 n).wf = true) : ∃ x : Nat, n = (x : Int) ∧ x < 18446744073709551616 := by
  have := bounds_u64 h
  exact ⟨n.toNat, by omega, by omega⟩
theorem i64_of_wf {n : Int} (h : (Lit.int .i64 n).wf = true) : -9223372036854775808 ≤ n ∧ n ≤ 9223372036854775807 := bounds_i64 h
theorem rd_bl (f : Nat → Bool) (n i : Nat) (h : i < n) : rd (bl f n) (i : Int) = bi (f i) := by
  unfold rd
  rw [Int.toNat_natCast]
  exact bl_get f n i h
theorem two64 : (2 : Nat) ^ 64 = 18446744073709551616 := by decide
theorem and_nat (a b : Nat) (ha : a < 18446744073709551616) (hb : b < 18446744073709551616) : Go.bits .and .u64 (a : Int) (b : Int) = ((a &&& b : Nat) : Int) := u64_and_nat a b ha hb
theorem or_nat (a b : Nat) (ha : a < 18446744073709551616) (hb : b < 18446744073709551616) : Go.bits .or .u64 (a : Int) (b : Int) = ((a ||| b : Nat) : Int) := u64_or_nat a b ha hb
theorem xor_nat (a b : Nat) (ha : a < 18446744073709551616) (hb : b < 18446744073709551616) : Go.bits .xor .u64 (a : Int) (b : Int) = ((a ^^^ b : Nat) : Int) := u64_xor_nat a b ha hb
theorem andNot_nat (a b : Nat) (ha : a < 18446744073709551616) (hb : b < 18446744073709551616) : Go.bits .andNot .u64 (a : Int) (b : Int) = ((a &&& (18446744073709551615 - b) : Nat) : Int) := u64_andNot_nat a b ha hb
theorem and_lt {a b : Nat} (ha : a < 18446744073709551616) : a &&& b < 18446744073709551616 := Nat.lt_of_le_of_lt Nat.and_le_left ha
theorem or_lt {a b : Nat} (ha : a < 18446744073709551616) (hb : b < 18446744073709551616) : a ||| b < 18446744073709551616 := by
  have := Nat.or_lt_two_pow (n := 64) (x := a) (y := b) (by rw [two64]; exact ha) (by rw [two64]; exact hb)
  rw [two64] at this; exact this
theorem xor_lt {a b : Nat} (ha : a < 18446744073709551616) (hb : b < 18446744073709551616) : a ^^^ b < 18446744073709551616 := by
  have := Nat.xor_lt_two_pow (n := 64) (x := a) (y := b) (by rw [two64]; exact ha) (by rw [two64]; exact hb)
  rw [two64] at this; exact this
theorem not_nat (b : Nat) (hb : b < 18446744073709551616) : Go.bits .xor .u64 18446744073709551615 (b : Int) = ((18446744073709551615 - b : Nat) : Int) := by
  have h := xor_nat 18446744073709551615 b (by omega) hb
  have e : (18446744073709551615 : Nat) ^^^ b = 18446744073709551615 - b := by
    apply Nat.eq_of_testBit_eq
    intro i
    rw [Nat.testBit_xor]
    have e1 : (18446744073709551615 : Nat) = 2 ^ 64 - 1 := by decide
    have e2 : (18446744073709551615 : Nat) - b = 2 ^ 64 - (b + 1) := by rw [two64]; omega
    rw [e2, Nat.testBit_two_pow_sub_succ (by rw [two64]; exact hb), e1, Nat.testBit_two_pow_sub_one]
    by_cases hi : i < 64
    · simp [hi]
    · have : b < 2 ^ i := Nat.lt_of_lt_of_le hb (by rw [← two64]; exact Nat.pow_le_pow_right (by decide) (by omega))
      simp [hi, Nat.testBit_lt_two_pow this]
  rw [e] at h
  exact h
theorem tb_not (b i : Nat) (hb : b < 18446744073709551616) : (18446744073709551615 - b).testBit i = (decide (i < 64) && !b.testBit i) := by
  have e2 : (18446744073709551615 : Nat) - b = 2 ^ 64 - (b + 1) := by rw [two64]; omega
  rw [e2, Nat.testBit_two_pow_sub_succ (by rw [two64]; exact hb)]
theorem eq64 {x y : Nat} (hx : x < 18446744073709551616) (hy : y < 18446744073709551616) (h : ∀ i, i < 64 → x.testBit i = y.testBit i) : x = y :=
  eq_of_bits (n := 64) (by rw [two64]; exact hx) (by rw [two64]; exact hy) h
theorem ob64 {x : Nat} (h : x < 18446744073709551616) : ob x.testBit 64 = x := ob_testBit (by rw [two64]; exact h)
theorem ob64_lt (f : Nat → Bool) : ob f 64 < 18446744073709551616 := by have := ob_lt f 64; rw [two64] at this; exact this
theorem shr_nat (x i : Nat) (hi : i ≤ 64) : shr .u64 (x : Int) (i : Int) = ((x / 2 ^ i : Nat) : Int) := by
  unfold shr
  rw [Int.toNat_natCast, Nat.min_eq_left (by simpa [IntKind.bits] using hi)]
  simp
theorem shl_nat (x i : Nat) (hi : i ≤ 64) : shl .u64 (x : Int) (i : Int) = ((x * 2 ^ i % 18446744073709551616 : Nat) : Int) := by
  unfold shl
  rw [Int.toNat_natCast, Nat.min_eq_left (by simpa [IntKind.bits] using hi), IntKind.wrap_u64]
  simp
theorem tb_shl (x s i : Nat) : (x * 2 ^ s % 18446744073709551616).testBit i = (decide (i < 64) && (decide (s ≤ i) && x.testBit (i - s))) := by
  rw [← two64, Nat.testBit_mod_two_pow, Nat.testBit_mul_two_pow]
theorem tb_shr (x s i : Nat) : (x / 2 ^ s).testBit i = x.testBit (s + i) := by
  rw [Nat.testBit_div_two_pow, Nat.add_comm]
/-- How many bits a number of bits asks for: at most 64. -/
def cnt (n : Int) : Nat := min n.toNat 64
theorem cnt_le (n : Int) : cnt n ≤ 64 := by unfold cnt; omega
theorem mn64 (n : Int) (i : Nat) : ((i : Int) < mn n 64) ↔ i < cnt n := by
  unfold mn cnt
  split <;> omega
def mask (n : Int) : Nat := 2 ^ cnt n - 1
theorem mask_lt (n : Int) : mask n < 18446744073709551616 := by
  unfold mask
  have h1 : 2 ^ cnt n ≤ 2 ^ 64 := Nat.pow_le_pow_right (by decide) (cnt_le n)
  have h2 : 0 < 2 ^ cnt n := Nat.two_pow_pos _
  rw [two64] at h1; omega
theorem tb_mask (n : Int) (i : Nat) : (mask n).testBit i = decide (i < cnt n) := by unfold mask; rw [Nat.testBit_two_pow_sub_one]
def getW (x : Nat) (at_ n : Int) : Nat := if 0 ≤ at_ ∧ at_ ≤ 63 then x / 2 ^ at_.toNat % 2 ^ cnt n else 0
theorem getW_lt {x : Nat} (h : x < 18446744073709551616) (at_ n : Int) : getW x at_ n < 18446744073709551616 := by
  unfold getW
  split
  · have h1 : x / 2 ^ at_.toNat % 2 ^ cnt n ≤ x / 2 ^ at_.toNat := Nat.mod_le _ _
    have h2 : x / 2 ^ at_.toNat ≤ x := Nat.div_le_self _ _
    omega
  · omega
theorem tb_getW (x : Nat) (at_ n : Int) (i : Nat) : (getW x at_ n).testBit i = (decide (0 ≤ at_ ∧ at_ ≤ 63) && (decide (i < cnt n) && x.testBit (at_.toNat + i))) := by
  unfold getW
  split
  · rename_i h
    rw [Nat.testBit_mod_two_pow, tb_shr]
    simp [h]
  · rename_i h
    simp [h]
def sextW (x : Nat) (n : Int) : Nat := if n ≤ 0 then 0 else if 64 ≤ n then x else ob (fun i => x.testBit (if i < n.toNat then i else n.toNat - 1)) 64
def putW (x : Nat) (at_ n : Int) (v : Nat) : Nat := if 0 ≤ at_ ∧ at_ ≤ 63 then ob (fun i => if at_.toNat ≤ i ∧ i < at_.toNat + cnt n then v.testBit (i - at_.toNat) else x.testBit i) 64 else x
theorem sextW_lt {x : Nat} (h : x < 18446744073709551616) (n : Int) : sextW x n < 18446744073709551616 := by
  unfold sextW
  split
  · omega
  · split
    · exact h
    · exact ob64_lt _
theorem putW_lt {x : Nat} (h : x < 18446744073709551616) (at_ n : Int) (v : Nat) : putW x at_ n v < 18446744073709551616 := by
  unfold putW
  split
  · exact ob64_lt _
  · exact h
theorem word_Sext32_is (x : Nat) (hx : x < 18446744073709551616) : word_Sext32.f (x : Int) = some ((sextW x 32 : Nat) : Int) := by
  unfold word_Sext32.f
  have e : sextW x 32 = if x.testBit 31 then x % 4294967296 + 18446744069414584320 else x % 4294967296 := by
    unfold sextW
    rw [if_neg (by omega), if_neg (by omega)]
    show ob (fun i => x.testBit (if i < 32 then i else 31)) 64 = _
    have hlt : x % 4294967296 < 2 ^ 32 := Nat.mod_lt _ (by decide)
    apply eq64 (ob64_lt _)
    · split <;> omega
    · intro i hi
      rw [testBit_ob]
      by_cases hs : x.testBit 31 = true
      · rw [if_pos hs]
        have e3 : x % 4294967296 + 18446744069414584320 = 2 ^ 32 * (2 ^ 32 - 1) + x % 4294967296 := by omega
        rw [e3, Nat.testBit_two_pow_mul_add _ hlt]
        rw [show (4294967296 : Nat) = 2 ^ 32 from rfl, Nat.testBit_mod_two_pow, Nat.testBit_two_pow_sub_one]
        by_cases h : i < 32
        · simp [h, hi]
        · simp [h, hi, hs]; omega
      · rw [if_neg hs, show (4294967296 : Nat) = 2 ^ 32 from rfl, Nat.testBit_mod_two_pow]
        by_cases h : i < 32
        · simp [h, hi]
        · simp [h, hi]; simpa using hs
  have ew : IntKind.u64.wrap (wrap64 (wrap32 (x : Int))) = if x / 2147483648 % 2 = 1 then ((x % 4294967296 + 18446744069414584320 : Nat) : Int) else ((x % 4294967296 : Nat) : Int) := by
    rw [IntKind.wrap_u64]
    unfold wrap32 wrap64
    split <;> omega
  rw [ew, e, Nat.testBit_eq_decide_div_mod_eq]
  by_cases hs : x / 2147483648 % 2 = 1
  · rw [if_pos hs, if_pos (by rw [decide_eq_true_iff]; exact hs)]
  · rw [if_neg hs, if_neg (by rw [decide_eq_true_iff]; exact hs)]
theorem Bits_l (x : Nat) (hx : x < 18446744073709551616) (d : Nat) : ∀ (k i : Nat), i + d = 64 → d < k → vireoref01_Bits.l0 k ((x / 2 ^ i : Nat) : Int) (bl x.testBit i) (i : Int) = some (bl x.testBit 64) := by
  induction d with
  | zero =>
    intro k i hi hk
    obtain ⟨k, rfl⟩ : ∃ m, k = m + 1 := ⟨k - 1, by omega⟩
    obtain rfl : i = 64 := by omega
    simp only [vireoref01_Bits.l0]
    rw [if_neg (by omega)]
  | succ d ih =>
    intro k i hi hk
    obtain ⟨k, rfl⟩ : ∃ m, k = m + 1 := ⟨k - 1, by omega⟩
    simp only [vireoref01_Bits.l0]
    have hl : x / 2 ^ i ≤ x := Nat.div_le_self _ _
    rw [if_pos (by omega), if_pos (by rw [bl_length]; omega)]
    have e1 : IntKind.u64.wrap (Int.tdiv ((x / 2 ^ i : Nat) : Int) 2) = ((x / 2 ^ (i + 1) : Nat) : Int) := by
      rw [show (2 : Int) = ((2 : Nat) : Int) from rfl, tdiv_nat, u64_nat _ (by omega), div_next]
    have e2 : wrap64 (Int.tmod ((x / 2 ^ i : Nat) : Int) 2) = bi (x.testBit i) := by
      rw [show (2 : Int) = ((2 : Nat) : Int) from rfl, tmod_nat, w64_id _ (by omega) (by omega), bit_at]
    have e3 : wrap64 ((i : Int) + 1) = ((i + 1 : Nat) : Int) := by rw [w64_id _ (by omega) (by omega)]; rfl
    rw [e1, e2, e3, ← bl_succ]
    exact ih k (i + 1) (by omega) (by omega)
theorem vireoref01_Bits_is (x : Nat) (hx : x < 18446744073709551616) (k : Nat) (hk : 65 ≤ k) : vireoref01_Bits.f k (x : Int) = some (bl x.testBit 64) := by
  unfold vireoref01_Bits.f
  have h := Bits_l x hx 64 k 0 (by omega) (by omega)
  simpa [bl_zero] using h
theorem Word_l (f : Nat → Bool) (n : Nat) (hn : n ≤ 64) (j : Nat) : ∀ (k : Nat), j ≤ n → j < k → vireoref01_Word.l0 k (bl f n) ((ob f n / 2 ^ j : Nat) : Int) ((j : Int) - 1) = some ((ob f n : Nat) : Int) := by
  have hX : ob f n < 18446744073709551616 := by
    have h1 := ob_lt f n
    have h2 : 2 ^ n ≤ 2 ^ 64 := Nat.pow_le_pow_right (by decide) hn
    rw [two64] at h2; omega
  induction j with
  | zero =>
    intro k _ hk
    obtain ⟨k, rfl⟩ : ∃ m, k = m + 1 := ⟨k - 1, by omega⟩
    simp only [vireoref01_Word.l0]
    rw [if_neg (by omega), Nat.pow_zero, Nat.div_one]
  | succ j ih =>
    intro k hj hk
    obtain ⟨k, rfl⟩ : ∃ m, k = m + 1 := ⟨k - 1, by omega⟩
    simp only [vireoref01_Word.l0]
    have ej : (((j + 1 : Nat) : Int) - 1) = (j : Int) := by omega
    rw [ej, if_pos (by omega), if_pos (by omega), if_pos (by rw [bl_length]; omega), rd_bl f n j (by omega)]
    have hb : bi (f j) = ((ob f n / 2 ^ j % 2 : Nat) : Int) := by
      rw [bit_at, testBit_ob]; simp [show j < n by omega]
    have hs := div_step (ob f n) j
    have hl : ob f n / 2 ^ j ≤ ob f n := Nat.div_le_self _ _
    have e1 : IntKind.u64.wrap (IntKind.u64.wrap (((ob f n / 2 ^ (j + 1) : Nat) : Int) * 2) + IntKind.u64.wrap (bi (f j))) = ((ob f n / 2 ^ j : Nat) : Int) := by
      rw [hb, u64_id (((ob f n / 2 ^ (j + 1) : Nat) : Int) * 2) (by omega) (by omega), u64_nat _ (by omega), u64_id _ (by omega) (by omega)]
      omega
    have e2 : wrap64 ((j : Int) - 1) = (j : Int) - 1 := w64_id _ (by omega) (by omega)
    rw [e1, e2]
    exact ih k (by omega) (by omega)
theorem vireoref01_Word_is (f : Nat → Bool) (n : Nat) (hn : n ≤ 64) (k : Nat) (hk : 65 ≤ k) : vireoref01_Word.f k (bl f n) = some ((ob f n : Nat) : Int) := by
  unfold vireoref01_Word.f
  have e : (mn ((bl f n).length : Int) 64) - 1 = (n : Int) - 1 := by
    rw [bl_length]; unfold mn; split <;> omega
  have h := Word_l f n hn n k (Nat.le_refl _) (by omega)
  rw [Nat.div_eq_of_lt (ob_lt f n)] at h
  rw [e]
  exact h
theorem ref_Sext_l (x : Nat) (n : Nat) (h0 : 1 ≤ n) (h1 : n ≤ 63) (d : Nat) : ∀ (k i : Nat), i + d = 64 → n ≤ i → d + 66 ≤ k →
    vireoref01_Sext.l0 k (n : Int) (bl (fun j => if n ≤ j ∧ j < i then x.testBit (n - 1) else x.testBit j) 64) (i : Int) = some ((sextW x (n : Int) : Nat) : Int) := by
  induction d with
  | zero =>
    intro k i hi h2 hk
    obtain ⟨k, rfl⟩ : ∃ m, k = m + 1 := ⟨k - 1, by omega⟩
    simp only [vireoref01_Sext.l0]
    rw [if_neg (by omega), vireoref01_Word_is _ 64 (by omega) k (by omega)]
    simp only [Option.bind_some]
    unfold sextW
    rw [if_neg (by omega), if_neg (by omega), Int.toNat_natCast]
    congr 2
    apply ob_congr
    intro j hj
    by_cases h3 : j < n
    · rw [if_neg (by omega), if_pos h3]
    · rw [if_pos (by omega), if_neg h3]
  | succ d ih =>
    intro k i hi h2 hk
    obtain ⟨k, rfl⟩ : ∃ m, k = m + 1 := ⟨k - 1, by omega⟩
    simp only [vireoref01_Sext.l0]
    have e1 : wrap64 ((n : Int) - 1) = ((n - 1 : Nat) : Int) := by rw [w64_id _ (by omega) (by omega)]; omega
    have e3 : wrap64 ((i : Int) + 1) = ((i + 1 : Nat) : Int) := w64_nat (i + 1) (by omega)
    rw [if_pos (by omega), e1, if_pos (by omega), if_pos (by rw [bl_length]; omega), if_pos (by omega), if_pos (by rw [bl_length]; omega), e3, rd_bl _ 64 (n - 1) (by omega), Int.toNat_natCast, bl_set, if_neg (by omega)]
    have e4 : (fun j => if j = i then x.testBit (n - 1) else if n ≤ j ∧ j < i then x.testBit (n - 1) else x.testBit j) = (fun j => if n ≤ j ∧ j < i + 1 then x.testBit (n - 1) else x.testBit j) := by
      funext j
      by_cases h3 : j = i
      · rw [if_pos h3, if_pos (by omega)]
      · rw [if_neg h3]
        by_cases h4 : n ≤ j ∧ j < i
        · rw [if_pos h4, if_pos (by omega)]
        · rw [if_neg h4, if_neg (by omega)]
    rw [e4]
    exact ih k (i + 1) (by omega) (by omega) (by omega)
theorem vireoref01_Sext_is (x : Nat) (hx : x < 18446744073709551616) (n : Int) (k : Nat) (hk : 140 ≤ k) : vireoref01_Sext.f k (x : Int) n = some ((sextW x n : Nat) : Int) := by
  unfold vireoref01_Sext.f
  by_cases h0 : n < 1
  · rw [if_pos h0]; unfold sextW; rw [if_pos (by omega)]; rfl
  · rw [if_neg h0]
    by_cases h1 : n > 63
    · rw [if_pos h1]; unfold sextW; rw [if_neg (by omega), if_pos (by omega)]
    · rw [if_neg h1, vireoref01_Bits_is x hx k (by omega)]
      simp only [Option.bind_some]
      obtain ⟨m, rfl⟩ := Int.eq_ofNat_of_zero_le (a := n) (by omega)
      have h := ref_Sext_l x m (by omega) (by omega) (64 - m) k m (by omega) (by omega) (by omega)
      rw [show (fun j => if m ≤ j ∧ j < m then x.testBit (m - 1) else x.testBit j) = x.testBit from by funext j; rw [if_neg (by omega)]] at h
      exact h
theorem sext32_val (x : Nat) : sextW x 32 = if x / 2147483648 % 2 = 1 then x % 4294967296 + 18446744069414584320 else x % 4294967296 := by
  have e : sextW x 32 = if x.testBit 31 then x % 4294967296 + 18446744069414584320 else x % 4294967296 := by
    unfold sextW
    rw [if_neg (by omega), if_neg (by omega)]
    show ob (fun i => x.testBit (if i < 32 then i else 31)) 64 = _
    have hlt : x % 4294967296 < 2 ^ 32 := Nat.mod_lt _ (by decide)
    apply eq64 (ob64_lt _)
    · split <;> omega
    · intro i hi
      rw [testBit_ob]
      by_cases hs : x.testBit 31 = true
      · rw [if_pos hs]
        have e3 : x % 4294967296 + 18446744069414584320 = 2 ^ 32 * (2 ^ 32 - 1) + x % 4294967296 := by omega
        rw [e3, Nat.testBit_two_pow_mul_add _ hlt]
        rw [show (4294967296 : Nat) = 2 ^ 32 from rfl, Nat.testBit_mod_two_pow, Nat.testBit_two_pow_sub_one]
        by_cases h : i < 32
        · simp [h, hi]
        · simp [h, hi, hs]; omega
      · rw [if_neg hs, show (4294967296 : Nat) = 2 ^ 32 from rfl, Nat.testBit_mod_two_pow]
        by_cases h : i < 32
        · simp [h, hi]
        · simp [h, hi]; simpa using hs
  rw [e, Nat.testBit_eq_decide_div_mod_eq]
  by_cases hs : x / 2147483648 % 2 = 1
  · rw [if_pos hs, if_pos (by rw [decide_eq_true_iff]; exact hs)]
  · rw [if_neg hs, if_neg (by rw [decide_eq_true_iff]; exact hs)]
theorem sext32_lt (x : Nat) : sextW x 32 < 18446744073709551616 := by rw [sext32_val]; split <;> omega
theorem sext32_low {x y : Nat} (h : x % 4294967296 = y % 4294967296) : sextW x 32 = sextW y 32 := by
  rw [sext32_val, sext32_val]
  have : x / 2147483648 % 2 = y / 2147483648 % 2 := by omega
  rw [this, h]
theorem sext32_mod (x : Nat) : sextW x 32 % 4294967296 = x % 4294967296 := by rw [sext32_val]; split <;> omega
theorem sext32_twice (x : Nat) : sextW (sextW x 32) 32 = sextW x 32 := sext32_low (sext32_mod x)
theorem prod_parts (a b c A1 A0 B1 B0 : Int) (ha : a = A1 * c + A0) (hb : b = B1 * c + B0) : a * b = (A1 * B1) * (c * c) + (A1 * B0) * c + (A0 * B1) * c + A0 * B0 := by
  subst ha hb
  grind
theorem prod_bound {x y : Int} (hx : 0 ≤ x ∧ x ≤ 4294967295) (hy : 0 ≤ y ∧ y ≤ 4294967295) : 0 ≤ x * y ∧ x * y ≤ 18446744065119617025 := by
  refine ⟨Int.mul_nonneg hx.1 hy.1, ?_⟩
  have h := Int.mul_le_mul hx.2 hy.2 hy.1 (by decide)
  exact h
theorem bits_Mul64_is (a b : Nat) (ha : a < 18446744073709551616) (hb : b < 18446744073709551616) :
    bits_Mul64.f (a : Int) (b : Int) = some (((a * b / 18446744073709551616 : Nat) : Int), ((a * b % 18446744073709551616 : Nat) : Int)) := by
  unfold bits_Mul64.f
  have ea : Go.bits .and .u64 (a : Int) 4294967295 = (a : Int) % 4294967296 := by
    have h := and_nat a 4294967295 ha (by omega)
    have h2 := Nat.and_two_pow_sub_one_eq_mod a 32
    rw [show (4294967295 : Nat) = 2 ^ 32 - 1 from rfl, h2] at h
    exact h.trans (by simp)
  have eb : Go.bits .and .u64 (b : Int) 4294967295 = (b : Int) % 4294967296 := by
    have h := and_nat b 4294967295 hb (by omega)
    have h2 := Nat.and_two_pow_sub_one_eq_mod b 32
    rw [show (4294967295 : Nat) = 2 ^ 32 - 1 from rfl, h2] at h
    exact h.trans (by simp)
  rw [ea, eb]
  have hA1 : 0 ≤ (a : Int) / 4294967296 ∧ (a : Int) / 4294967296 ≤ 4294967295 := by omega
  have hA0 : 0 ≤ (a : Int) % 4294967296 ∧ (a : Int) % 4294967296 ≤ 4294967295 := by omega
  have hB1 : 0 ≤ (b : Int) / 4294967296 ∧ (b : Int) / 4294967296 ≤ 4294967295 := by omega
  have hB0 : 0 ≤ (b : Int) % 4294967296 ∧ (b : Int) % 4294967296 ≤ 4294967295 := by omega
  have hp := prod_parts (a : Int) (b : Int) 4294967296 ((a : Int) / 4294967296) ((a : Int) % 4294967296) ((b : Int) / 4294967296) ((b : Int) % 4294967296) (by omega) (by omega)
  have h11 := prod_bound hA1 hB1
  have h10 := prod_bound hA1 hB0
  have h01 := prod_bound hA0 hB1
  have h00 := prod_bound hA0 hB0
  have hc1 : ((a * b / 18446744073709551616 : Nat) : Int) = (a : Int) * (b : Int) / 18446744073709551616 := by simp
  have hc2 : ((a * b % 18446744073709551616 : Nat) : Int) = (a : Int) * (b : Int) % 18446744073709551616 := by simp
  rw [hc1, hc2]
  simp only [IntKind.wrap_u64]
  rw [hp]
  generalize (a : Int) / 4294967296 * ((b : Int) / 4294967296) = p11 at *
  generalize (a : Int) / 4294967296 * ((b : Int) % 4294967296) = p10 at *
  generalize (a : Int) % 4294967296 * ((b : Int) / 4294967296) = p01 at *
  generalize (a : Int) % 4294967296 * ((b : Int) % 4294967296) = p00 at *
  have hw : (p10 % 18446744073709551616 + p00 % 18446744073709551616 / 4294967296) % 18446744073709551616 = p10 + p00 / 4294967296 := by omega
  rw [hw]
  have ht : Go.bits .and .u64 (p10 + p00 / 4294967296) 4294967295 = (p10 + p00 / 4294967296) % 4294967296 := by
    obtain ⟨t, ht⟩ := Int.eq_ofNat_of_zero_le (a := p10 + p00 / 4294967296) (by omega)
    rw [ht]
    have h := and_nat t 4294967295 (by omega) (by omega)
    have h2 := Nat.and_two_pow_sub_one_eq_mod t 32
    rw [show (4294967295 : Nat) = 2 ^ 32 - 1 from rfl, h2] at h
    exact h.trans (by simp)
  rw [ht]
  simp only [Option.some.injEq, Prod.mk.injEq]
  exact ⟨by omega, by first | exact True.intro | omega⟩
theorem mul_High_is (a b : Nat) (ha : a < 18446744073709551616) (hb : b < 18446744073709551616) : mul_High.f (a : Int) (b : Int) = some ((a * b / 18446744073709551616 : Nat) : Int) := by
  unfold mul_High.f
  rw [bits_Mul64_is a b ha hb]; rfl
theorem mul_lt {a b : Nat} (ha : a < 18446744073709551616) (hb : b < 18446744073709551616) : a * b ≤ 340282366920938463426481119284349108225 :=
  Nat.mul_le_mul (n₁ := a) (n₂ := 18446744073709551615) (m₁ := b) (m₂ := 18446744073709551615) (by omega) (by omega)
/-- The high half of a product with signs. -/
def highS (a b : Nat) (both : Bool) : Int :=
  ((a * b / 18446744073709551616 : Nat) - (if 9223372036854775808 ≤ a then (b : Int) else 0) - (if both = true ∧ 9223372036854775808 ≤ b then (a : Int) else 0)) % 18446744073709551616
theorem mul_HighSigned_is (a b : Nat) (both : Bool) (ha : a < 18446744073709551616) (hb : b < 18446744073709551616) : mul_HighSigned.f (a : Int) (b : Int) both = some (highS a b both) := by
  have hl := mul_lt ha hb
  obtain ⟨wa, hwa, hwa2⟩ : ∃ wa, wrap64 (a : Int) = wa ∧ (wa < 0 ↔ 9223372036854775808 ≤ a) := ⟨_, rfl, by unfold wrap64; omega⟩
  obtain ⟨wb, hwb, hwb2⟩ : ∃ wb, wrap64 (b : Int) = wb ∧ (wb < 0 ↔ 9223372036854775808 ≤ b) := ⟨_, rfl, by unfold wrap64; omega⟩
  unfold mul_HighSigned.f highS
  rw [hwa, hwb, mul_High_is a b ha hb, Option.bind_some]
  clear hwa hwb
  obtain ⟨p, hp⟩ : ∃ p, a * b = p := ⟨_, rfl⟩
  rw [hp] at hl ⊢
  clear hp
  rw [IntKind.wrap_u64, IntKind.wrap_u64, IntKind.wrap_u64]
  by_cases c1 : 9223372036854775808 ≤ a
  · rw [if_pos (hwa2.mpr c1), if_pos c1]
    cases both
    · rw [if_neg (by decide), if_neg (fun h => by cases h.1)]
      exact congrArg some (by omega)
    · rw [if_pos rfl]
      by_cases c2 : 9223372036854775808 ≤ b
      · rw [if_pos (hwb2.mpr c2), if_pos ⟨rfl, c2⟩]
        exact congrArg some (by omega)
      · rw [if_neg (fun h => c2 (hwb2.mp h)), if_neg (fun h => c2 h.2)]
        exact congrArg some (by omega)
  · rw [if_neg (fun h => c1 (hwa2.mp h)), if_neg c1]
    cases both
    · rw [if_neg (by decide), if_neg (fun h => by cases h.1)]
      exact congrArg some (by omega)
    · rw [if_pos rfl]
      by_cases c2 : 9223372036854775808 ≤ b
      · rw [if_pos (hwb2.mpr c2), if_pos ⟨rfl, c2⟩]
        exact congrArg some (by omega)
      · rw [if_neg (fun h => c2 (hwb2.mp h)), if_neg (fun h => c2 h.2)]
        exact congrArg some (by omega)
/-- A number's lowest 128 bits, in halves. -/
def hi128 (v : Nat) : Int := ((v / 18446744073709551616 % 18446744073709551616 : Nat) : Int)
def lo128 (v : Nat) : Int := ((v % 18446744073709551616 : Nat) : Int)
theorem ref_add_is (v w : Nat) : vireoref06_add.f (hi128 v) (lo128 v) (hi128 w) (lo128 w) = some (hi128 (v + w), lo128 (v + w)) := by
  unfold vireoref06_add.f hi128 lo128
  simp only [IntKind.wrap_u64]
  split
  · simp only [Option.some.injEq, Prod.mk.injEq]; refine ⟨?_, ?_⟩ <;> first | exact True.intro | omega
  · simp only [Option.some.injEq, Prod.mk.injEq]; refine ⟨?_, ?_⟩ <;> first | exact True.intro | omega
theorem mod_next (b i : Nat) : b % 2 ^ (i + 1) = b % 2 ^ i + (if b.testBit i then 2 ^ i else 0) := by
  rw [Nat.testBit_eq_decide_div_mod_eq, Nat.pow_succ, Nat.mod_mul]
  rcases Nat.mod_two_eq_zero_or_one (b / 2 ^ i) with h | h <;> simp [h]
theorem Product_l (a b : Nat) (hb : b < 18446744073709551616) (d : Nat) : ∀ (k i : Nat), i + d = 64 → d < k →
    vireoref06_Product.l0 k (bl b.testBit 64) (i : Int) (hi128 (a * (b % 2 ^ i))) (lo128 (a * (b % 2 ^ i))) (hi128 (a * 2 ^ i)) (lo128 (a * 2 ^ i)) = some (hi128 (a * b), lo128 (a * b)) := by
  induction d with
  | zero =>
    intro k i hi hk
    obtain ⟨k, rfl⟩ : ∃ m, k = m + 1 := ⟨k - 1, by omega⟩
    obtain rfl : i = 64 := by omega
    simp only [vireoref06_Product.l0]
    rw [if_neg (by omega), two64, Nat.mod_eq_of_lt hb]
  | succ d ih =>
    intro k i hi hk
    obtain ⟨k, rfl⟩ : ∃ m, k = m + 1 := ⟨k - 1, by omega⟩
    simp only [vireoref06_Product.l0]
    have e3 : wrap64 ((i : Int) + 1) = ((i + 1 : Nat) : Int) := by rw [w64_id _ (by omega) (by omega)]; rfl
    have e4 : a * 2 ^ i + a * 2 ^ i = a * 2 ^ (i + 1) := by rw [Nat.pow_succ]; grind
    rw [if_pos (by omega), if_pos (by omega), if_pos (by rw [bl_length]; omega), rd_bl _ 64 i (by omega), e3]
    have hm := mod_next b i
    have hn := ih k (i + 1) (by omega) (by omega)
    by_cases hbit : b.testBit i = true
    · rw [if_pos ((bi_eq_one _).mpr hbit), ref_add_is, Option.bind_some, ref_add_is, Option.bind_some, e4]
      rw [if_pos hbit] at hm
      rw [hm, Nat.mul_add] at hn
      exact hn
    · rw [if_neg (fun h => hbit ((bi_eq_one _).mp h)), ref_add_is, Option.bind_some, e4]
      rw [if_neg hbit] at hm
      rw [hm, Nat.add_zero] at hn
      exact hn
theorem vireoref06_Product_is (a b : Nat) (ha : a < 18446744073709551616) (hb : b < 18446744073709551616) (k : Nat) (hk : 65 ≤ k) :
    vireoref06_Product.f k (a : Int) (b : Int) = some (((a * b / 18446744073709551616 : Nat) : Int), ((a * b % 18446744073709551616 : Nat) : Int)) := by
  unfold vireoref06_Product.f
  rw [vireoref01_Bits_is b hb k hk]
  simp only [Option.bind_some]
  have h := Product_l a b hb 64 k 0 (by omega) (by omega)
  have e0 : hi128 (a * (b % 2 ^ 0)) = 0 := by rw [Nat.pow_zero, Nat.mod_one, Nat.mul_zero]; rfl
  have e1 : lo128 (a * (b % 2 ^ 0)) = 0 := by rw [Nat.pow_zero, Nat.mod_one, Nat.mul_zero]; rfl
  have e2 : hi128 (a * 2 ^ 0) = 0 := by rw [Nat.pow_zero, Nat.mul_one]; unfold hi128; omega
  have e3 : lo128 (a * 2 ^ 0) = a := by rw [Nat.pow_zero, Nat.mul_one]; unfold lo128; omega
  rw [e0, e1, e2, e3] at h
  have hl := mul_lt ha hb
  rw [show (0 : Int) = ((0 : Nat) : Int) from rfl]
  refine h.trans ?_
  unfold hi128 lo128
  generalize a * b = p at *
  simp only [Option.some.injEq, Prod.mk.injEq]
  refine ⟨?_, ?_⟩ <;> first | exact True.intro | omega
theorem ref_below_is (a : Nat) : vireoref06_below.f (a : Int) = some (decide (9223372036854775808 ≤ a)) := by
  unfold vireoref06_below.f
  congr 1
  apply decide_eq_decide.mpr; omega
/-- A number without its sign. -/
def absW (a : Nat) : Nat := if 9223372036854775808 ≤ a then 18446744073709551616 - a else a
theorem absW_lt {a : Nat} (ha : a < 18446744073709551616) : absW a < 18446744073709551616 := by unfold absW; split <;> omega
theorem ref_size_is (a : Nat) (ha : a < 18446744073709551616) : vireoref06_size.f (a : Int) = some ((absW a : Nat) : Int) := by
  unfold vireoref06_size.f absW
  rw [ref_below_is]
  simp only [Option.bind_some]
  by_cases h : 9223372036854775808 ≤ a
  · rw [decide_eq_true h, if_pos rfl, if_pos h, not_nat a ha, u64_id _ (by omega) (by omega)]
    congr 1; omega
  · rw [decide_eq_false h, if_neg (by decide), if_neg h]
theorem ref_neg_is (h l : Nat) (hh : h < 18446744073709551616) (hl : l < 18446744073709551616) :
    vireoref06_neg.f (h : Int) (l : Int) = some (hi128 (340282366920938463463374607431768211456 - (h * 18446744073709551616 + l)), lo128 (340282366920938463463374607431768211456 - (h * 18446744073709551616 + l))) := by
  unfold vireoref06_neg.f
  rw [not_nat h hh, not_nat l hl]
  have e1 : ((18446744073709551615 - h : Nat) : Int) = hi128 ((18446744073709551615 - h) * 18446744073709551616 + (18446744073709551615 - l)) := by unfold hi128; omega
  have e2 : ((18446744073709551615 - l : Nat) : Int) = lo128 ((18446744073709551615 - h) * 18446744073709551616 + (18446744073709551615 - l)) := by unfold lo128; omega
  have e3 : (0 : Int) = hi128 1 := by unfold hi128; omega
  have e4 : (1 : Int) = lo128 1 := by unfold lo128; omega
  rw [e1, e2]
  conv => lhs; arg 1; rw [e3, e4]
  rw [ref_add_is]
  simp only [Option.bind_some]
  have e5 : (18446744073709551615 - h) * 18446744073709551616 + (18446744073709551615 - l) + 1 = 340282366920938463463374607431768211456 - (h * 18446744073709551616 + l) := by omega
  rw [e5]
theorem Signed_j (x y : Nat) (turn : Bool) (hx : x < 18446744073709551616) (hy : y < 18446744073709551616) (k : Nat) (hk : 66 ≤ k) :
    ∃ lo, vireoref06_Signed.j0 k (x : Int) (y : Int) turn = some (hi128 (if turn then 340282366920938463463374607431768211456 - x * y else x * y), lo) := by
  obtain ⟨k, rfl⟩ : ∃ m, k = m + 1 := ⟨k - 1, by omega⟩
  simp only [vireoref06_Signed.j0]
  rw [vireoref06_Product_is x y hx hy k (by omega)]
  have hl := mul_lt hx hy
  simp only [Option.bind_some]
  cases turn
  · rw [if_neg (by decide)]
    refine ⟨((x * y % 18446744073709551616 : Nat) : Int), ?_⟩
    simp only [Option.some.injEq, Prod.mk.injEq, Bool.false_eq_true, if_false, and_true]
    unfold hi128
    generalize x * y = p at *
    omega
  · rw [if_pos rfl, ref_neg_is _ _ (by generalize x * y = p at *; omega) (by omega)]
    refine ⟨lo128 (340282366920938463463374607431768211456 - ((x * y / 18446744073709551616) * 18446744073709551616 + x * y % 18446744073709551616)), ?_⟩
    simp only [Option.bind_some, if_true, Option.some.injEq, Prod.mk.injEq, and_true]
    generalize x * y = p at *
    congr 1
    omega
theorem vireoref06_Signed_is (a b : Nat) (both : Bool) (ha : a < 18446744073709551616) (hb : b < 18446744073709551616) (k : Nat) (hk : 66 ≤ k) :
    ∃ lo, vireoref06_Signed.f k (a : Int) (b : Int) both = some (highS a b both, lo) := by
  have hla := absW_lt ha
  have hlb := absW_lt hb
  unfold vireoref06_Signed.f
  rw [ref_size_is a ha, ref_below_is]
  simp only [Option.bind_some]
  have hl := mul_lt ha hb
  cases both
  · rw [if_neg (by decide)]
    obtain ⟨lo, h⟩ := Signed_j (absW a) b (decide (9223372036854775808 ≤ a)) hla hb k hk
    refine ⟨lo, ?_⟩
    rw [h]
    simp only [Option.some.injEq, Prod.mk.injEq, and_true]
    unfold hi128 highS absW
    by_cases c : 9223372036854775808 ≤ a
    · have e : (18446744073709551616 - a) * b = 18446744073709551616 * b - a * b := Nat.sub_mul _ _ _
      have e2 : a * b ≤ 18446744073709551616 * b := Nat.mul_le_mul_right b (by omega)
      simp only [c, decide_true, if_true, Bool.false_eq_true, false_and, if_false]
      rw [e]
      generalize a * b = p at *
      omega
    · simp only [c, decide_false, Bool.false_eq_true, if_false, false_and]
      generalize a * b = p at *
      omega
  · rw [if_pos rfl, ref_size_is b hb]
    simp only [Option.bind_some]
    rw [ref_below_is]
    simp only [Option.bind_some]
    obtain ⟨lo, h⟩ := Signed_j (absW a) (absW b) (decide (9223372036854775808 ≤ a) != decide (9223372036854775808 ≤ b)) hla hlb k hk
    refine ⟨lo, ?_⟩
    rw [h]
    simp only [Option.some.injEq, Prod.mk.injEq, and_true]
    unfold hi128 highS absW
    by_cases c : 9223372036854775808 ≤ a
    · have e : (18446744073709551616 - a) * b = 18446744073709551616 * b - a * b := Nat.sub_mul _ _ _
      have e2 : a * b ≤ 18446744073709551616 * b := Nat.mul_le_mul_right b (by omega)
      by_cases c2 : 9223372036854775808 ≤ b
      · have e3 : ((18446744073709551616 - a) * (18446744073709551616 - b) : Nat) = 18446744073709551616 * (18446744073709551616 - a) - (18446744073709551616 - a) * b := by rw [Nat.mul_sub, Nat.mul_comm]
        have e4 : (18446744073709551616 - a) * b ≤ 18446744073709551616 * (18446744073709551616 - a) := by rw [Nat.mul_comm 18446744073709551616]; exact Nat.mul_le_mul_left _ (by omega)
        rw [e] at e3 e4
        simp only [c, c2, decide_true, if_true, bne_self_eq_false, Bool.false_eq_true, and_self, if_false]
        rw [e3]
        generalize a * b = p at *
        omega
      · simp only [c, c2, decide_true, decide_false, if_true, if_false, and_false]
        rw [e]
        generalize a * b = p at *
        simp only [show (true != false) = true from rfl, if_true]
        omega
    · by_cases c2 : 9223372036854775808 ≤ b
      · have e : a * (18446744073709551616 - b) = 18446744073709551616 * a - a * b := by rw [Nat.mul_sub, Nat.mul_comm a]
        have e2 : a * b ≤ 18446744073709551616 * a := by rw [Nat.mul_comm a b]; exact Nat.mul_le_mul_right a (by omega)
        simp only [c, c2, decide_true, decide_false, if_true, if_false, and_self]
        rw [e]
        generalize a * b = p at *
        simp only [show (false != true) = true from rfl, if_true]
        omega
      · simp only [c, c2, decide_false, bne_self_eq_false, Bool.false_eq_true, if_false, and_false]
        generalize a * b = p at *
        omega
theorem div_next2 (X Y b β : Nat) (hb : 0 < b) (hX : X = Y * 2 + β) (hβ : β < 2) :
    X % b = (if b ≤ Y % b * 2 + β then Y % b * 2 + β - b else Y % b * 2 + β) ∧ X / b % 2 = (if b ≤ Y % b * 2 + β then 1 else 0) := by
  have h1 := Nat.div_add_mod Y b
  have h2 := Nat.mod_lt Y hb
  have hX2 : X = b * (Y / b * 2) + (Y % b * 2 + β) := by
    rw [hX]
    conv => lhs; rw [← h1]
    grind
  obtain ⟨r, hr⟩ : ∃ r, Y % b = r := ⟨_, rfl⟩
  obtain ⟨q, hq⟩ : ∃ q, Y / b = q := ⟨_, rfl⟩
  rw [hr, hq] at hX2
  rw [hr] at h2 ⊢
  by_cases c : b ≤ r * 2 + β
  · rw [if_pos c, if_pos c]
    have hX3 : X = b * (q * 2 + 1) + (r * 2 + β - b) := by
      rw [hX2, Nat.mul_add]; omega
    have e1 : (r * 2 + β - b) % b = r * 2 + β - b := Nat.mod_eq_of_lt (by omega)
    have e2 : (r * 2 + β - b) / b = 0 := Nat.div_eq_of_lt (by omega)
    rw [hX3, Nat.mul_add_mod, Nat.mul_add_div hb, e1, e2]
    exact ⟨rfl, by omega⟩
  · rw [if_neg c, if_neg c]
    have e1 : (r * 2 + β) % b = r * 2 + β := Nat.mod_eq_of_lt (by omega)
    have e2 : (r * 2 + β) / b = 0 := Nat.div_eq_of_lt (by omega)
    rw [hX2, Nat.mul_add_mod, Nat.mul_add_div hb, e1, e2]
    exact ⟨rfl, by omega⟩
theorem Quot_l (a b : Nat) (ha : a < 18446744073709551616) (hb0 : 0 < b) (hb : b < 18446744073709551616) (j : Nat) : ∀ (k : Nat), j ≤ 64 → j + 66 ≤ k →
    vireoref06_Quotient.l0 k (b : Int) (bl a.testBit 64) (bl (fun i => if j ≤ i then (a / b).testBit i else false) 64) ((a / 2 ^ j % b : Nat) : Int) ((j : Int) - 1) = some (((a / b : Nat) : Int), ((a % b : Nat) : Int)) := by
  have hq : a / b < 18446744073709551616 := Nat.lt_of_le_of_lt (Nat.div_le_self _ _) ha
  induction j with
  | zero =>
    intro k _ hk
    obtain ⟨k, rfl⟩ : ∃ m, k = m + 1 := ⟨k - 1, by omega⟩
    simp only [vireoref06_Quotient.l0]
    rw [if_neg (by omega), vireoref01_Word_is _ 64 (by omega) k (by omega)]
    simp only [Option.bind_some, Nat.zero_le, if_true, Nat.pow_zero, Nat.div_one]
    rw [show (fun i => (a / b).testBit i) = (a / b).testBit from rfl, ob64 hq]
  | succ j ih =>
    intro k hj hk
    obtain ⟨k, rfl⟩ : ∃ m, k = m + 1 := ⟨k - 1, by omega⟩
    have hn := ih k (by omega) (by omega)
    simp only [vireoref06_Quotient.l0]
    have ej : (((j + 1 : Nat) : Int) - 1) = (j : Int) := by omega
    have e2 : wrap64 ((j : Int) - 1) = (j : Int) - 1 := w64_id _ (by omega) (by omega)
    rw [ej, if_pos (by omega), if_pos (by omega), if_pos (by rw [bl_length]; omega), rd_bl _ 64 j (by omega), e2]
    have hlen : ((j : Int) < ((bl (fun i => if j + 1 ≤ i then (a / b).testBit i else false) 64).length : Int)) := by rw [bl_length]; omega
    rw [if_pos hlen]
    obtain ⟨β, hβ⟩ : ∃ β, β = a / 2 ^ j % 2 := ⟨_, rfl⟩
    have hs := div_step a j
    rw [← hβ] at hs
    have hbi : bi (a.testBit j) = (β : Int) := by rw [hβ, bit_at]
    obtain ⟨h1, h2⟩ := div_next2 (a / 2 ^ j) (a / 2 ^ (j + 1)) b β hb0 hs (by omega)
    have h3 : a / 2 ^ j / b = a / b / 2 ^ j := by rw [Nat.div_div_eq_div_mul, Nat.div_div_eq_div_mul, Nat.mul_comm]
    rw [h3] at h2
    have hr : a / 2 ^ (j + 1) % b < b := Nat.mod_lt _ hb0
    have hset1 : (bl (fun i => if j + 1 ≤ i then (a / b).testBit i else false) 64).set j 1 = bl (fun i => if i = j then true else if j + 1 ≤ i then (a / b).testBit i else false) 64 := bl_set _ 64 j true
    rw [hbi, Int.toNat_natCast, hset1]
    have hfun1 : (a / b).testBit j = true → (fun i => if i = j then true else if j + 1 ≤ i then (a / b).testBit i else false) = (fun i => if j ≤ i then (a / b).testBit i else false) := by
      intro hb1
      funext i
      by_cases c : i = j
      · subst c; rw [if_pos rfl, if_pos (Nat.le_refl _), hb1]
      · rw [if_neg c]
        by_cases c2 : j ≤ i
        · rw [if_pos (by omega), if_pos c2]
        · rw [if_neg (by omega), if_neg c2]
    have hfun0 : (a / b).testBit j = false → (fun i => if j + 1 ≤ i then (a / b).testBit i else false) = (fun i => if j ≤ i then (a / b).testBit i else false) := by
      intro hb1
      funext i
      by_cases c : i = j
      · subst c; rw [if_neg (by omega), if_pos (Nat.le_refl _), hb1]
      · by_cases c2 : j ≤ i
        · rw [if_pos (by omega), if_pos c2]
        · rw [if_neg (by omega), if_neg c2]
    have htb : (a / b).testBit j = decide (a / b / 2 ^ j % 2 = 1) := Nat.testBit_eq_decide_div_mod_eq ..
    rw [h2] at htb
    generalize a / 2 ^ (j + 1) % b = r at *
    simp only [IntKind.wrap_u64]
    by_cases c : b ≤ r * 2 + β
    · rw [if_pos c] at h1 htb
      have ht : (a / b).testBit j = true := by rw [htb]; rfl
      rw [hfun1 ht]
      have er : (((r : Int) * 2 % 18446744073709551616 + (β : Int) % 18446744073709551616) % 18446744073709551616 - (b : Int)) % 18446744073709551616 = ((a / 2 ^ j % b : Nat) : Int) := by
        rw [h1]; omega
      rw [er, hn]
      split
      · rfl
      · rw [if_pos (by omega)]
    · rw [if_neg c] at h1 htb
      have ht : (a / b).testBit j = false := by rw [htb]; rfl
      rw [hfun0 ht] 
      rw [if_neg (by omega), if_neg (by omega)]
      have er : ((r : Int) * 2 % 18446744073709551616 + (β : Int) % 18446744073709551616) % 18446744073709551616 = ((a / 2 ^ j % b : Nat) : Int) := by
        rw [h1]; omega
      rw [er, hn]
theorem replicate_bl : List.replicate 64 (0 : Int) = bl (fun _ => false) 64 := by decide
theorem vireoref06_Quotient_is (a b : Nat) (ha : a < 18446744073709551616) (hb0 : 0 < b) (hb : b < 18446744073709551616) (k : Nat) (hk : 140 ≤ k) :
    vireoref06_Quotient.f k (a : Int) (b : Int) = some (((a / b : Nat) : Int), ((a % b : Nat) : Int)) := by
  unfold vireoref06_Quotient.f
  rw [vireoref01_Bits_is a ha k (by omega)]
  simp only [Option.bind_some]
  rw [if_pos (by decide), replicate_bl]
  have h := Quot_l a b ha hb0 hb 64 k (by omega) (by omega)
  have e1 : a / 2 ^ 64 % b = 0 := by rw [two64, Nat.div_eq_of_lt ha]; exact Nat.zero_mod _
  have e2 : bl (fun i => if 64 ≤ i then (a / b).testBit i else false) 64 = bl (fun _ => false) 64 := bl_congr fun i hi => by rw [if_neg (by omega)]
  rw [e1, e2] at h
  exact h
theorem vireoref06_Unsigned_is (a b : Nat) (ha : a < 18446744073709551616) (hb : b < 18446744073709551616) (k : Nat) (hk : 140 ≤ k) :
    vireoref06_Unsigned.f k (a : Int) (b : Int) = mul_divu.f (a : Int) (b : Int) := by
  unfold vireoref06_Unsigned.f mul_divu.f
  by_cases h : b = 0
  · subst h; rfl
  · rw [if_neg (by omega), if_neg (by omega), vireoref06_Quotient_is a b ha (by omega) hb k hk]
    have hq : a / b ≤ a := Nat.div_le_self _ _
    simp only [Option.bind_some]
    rw [tdiv_nat, tmod_nat, u64_nat _ (by omega)]
/-- A word as a number with its sign. -/
def sI (a : Nat) : Int := if 9223372036854775808 ≤ a then (a : Int) - 18446744073709551616 else a
theorem wrap64_sI (a : Nat) (ha : a < 18446744073709551616) : wrap64 (a : Int) = sI a := by unfold wrap64 sI; split <;> omega
theorem sI_abs (a : Nat) (ha : a < 18446744073709551616) : sI a = if 9223372036854775808 ≤ a then -((absW a : Nat) : Int) else ((absW a : Nat) : Int) := by unfold sI absW; split <;> omega
theorem vireoref06_SignedQuotient_is (a b : Nat) (ha : a < 18446744073709551616) (hb : b < 18446744073709551616) (k : Nat) (hk : 140 ≤ k) :
    vireoref06_SignedQuotient.f k (a : Int) (b : Int) = (mul_div.f (sI a) (sI b)).bind fun p => some (IntKind.u64.wrap p.1, IntKind.u64.wrap p.2) := by
  unfold vireoref06_SignedQuotient.f mul_div.f
  by_cases h : b = 0
  · subst h
    rw [if_pos (show ((0 : Nat) : Int) = 0 from rfl), if_pos (show sI 0 = 0 from rfl)]
    simp only [Option.bind_some, Option.some.injEq, Prod.mk.injEq]
    refine ⟨by decide +kernel, ?_⟩
    unfold sI; rw [IntKind.wrap_u64]; split <;> omega
  · have hla := absW_lt ha
    have hlb := absW_lt hb
    have hb0 : 0 < absW b := by unfold absW; split <;> omega
    have hsb : ¬ sI b = 0 := by unfold sI; split <;> omega
    rw [if_neg (by omega), if_neg hsb, ref_size_is a ha, ref_size_is b hb]
    simp only [Option.bind_some]
    rw [vireoref06_Quotient_is _ _ hla hb0 hlb k hk, ref_below_is, ref_below_is]
    simp only [Option.bind_some]
    have hqd : absW a / absW b ≤ absW a := Nat.div_le_self _ _
    have hrd : absW a % absW b < absW b := Nat.mod_lt _ hb0
    have hbd : absW a ≤ 9223372036854775808 := by unfold absW; split <;> omega
    have hbd2 : absW b ≤ 9223372036854775808 := by unfold absW; split <;> omega
    have hq1 : 2 ≤ absW b → absW a / absW b ≤ 4611686018427387904 := fun h2 => by
      have : absW a / absW b ≤ absW a / 2 := Nat.div_le_div_left h2 (by omega)
      omega
    have main : (if sI a = -9223372036854775808 then (if sI b = -1 then some (sI a, (0 : Int)) else some (wrap64 (Int.tdiv (sI a) (sI b)), Int.tmod (sI a) (sI b))) else some (wrap64 (Int.tdiv (sI a) (sI b)), Int.tmod (sI a) (sI b))) = some (wrap64 (Int.tdiv (sI a) (sI b)), Int.tmod (sI a) (sI b)) := by
      split
      · split
        · rename_i h1 h2; rw [h1, h2]; decide +kernel
        · rfl
      · rfl
    rw [main]
    simp only [Option.bind_some]
    rw [sI_abs a ha, sI_abs b hb]
    rw [not_nat _ (by omega), not_nat _ (by omega)]
    by_cases c1 : 9223372036854775808 ≤ a
    · by_cases c2 : 9223372036854775808 ≤ b
      · simp only [c1, c2, decide_true, if_true, bne_self_eq_false, Bool.false_eq_true, if_false]
        rw [Int.neg_tdiv, Int.tdiv_neg, Int.neg_tmod, Int.tmod_neg, tdiv_nat, tmod_nat]
        generalize absW a / absW b = q at *
        generalize absW a % absW b = r at *
        unfold wrap64
        simp only [IntKind.wrap_u64, Option.some.injEq, Prod.mk.injEq]
        refine ⟨?_, ?_⟩ <;> first | exact True.intro | omega
      · simp only [c1, c2, decide_true, decide_false, if_true, if_false, show (true != false) = true from rfl]
        rw [Int.neg_tdiv, Int.neg_tmod, tdiv_nat, tmod_nat]
        generalize absW a / absW b = q at *
        generalize absW a % absW b = r at *
        unfold wrap64
        simp only [IntKind.wrap_u64, Option.some.injEq, Prod.mk.injEq]
        refine ⟨?_, ?_⟩ <;> first | exact True.intro | omega
    · by_cases c2 : 9223372036854775808 ≤ b
      · simp only [c1, c2, decide_true, decide_false, if_true, if_false, show (false != true) = true from rfl, Bool.false_eq_true]
        rw [Int.tdiv_neg, Int.tmod_neg, tdiv_nat, tmod_nat]
        generalize absW a / absW b = q at *
        generalize absW a % absW b = r at *
        unfold wrap64
        simp only [IntKind.wrap_u64, Option.some.injEq, Prod.mk.injEq]
        refine ⟨?_, ?_⟩ <;> first | exact True.intro | omega
      · simp only [c1, c2, decide_false, bne_self_eq_false, Bool.false_eq_true, if_false]
        rw [tdiv_nat, tmod_nat]
        generalize absW a / absW b = q at *
        generalize absW a % absW b = r at *
        unfold wrap64
        simp only [IntKind.wrap_u64, Option.some.injEq, Prod.mk.injEq]
        refine ⟨?_, ?_⟩ <;> first | exact True.intro | omega
theorem u64_cast (q : Int) : ∃ n : Nat, IntKind.u64.wrap q = (n : Int) ∧ n < 18446744073709551616 := ⟨(IntKind.u64.wrap q).toNat, by rw [IntKind.wrap_u64]; omega, by rw [IntKind.wrap_u64]; omega⟩
theorem mul_div_some (a b : Int) : ∃ p, mul_div.f a b = some p := by
  unfold mul_div.f
  split
  · exact ⟨_, rfl⟩
  · split
    · split <;> exact ⟨_, rfl⟩
    · exact ⟨_, rfl⟩
theorem mul_divu_nat (a b : Nat) (ha : a < 18446744073709551616) (hb : b < 18446744073709551616) :
    mul_divu.f (a : Int) (b : Int) = some (((if b = 0 then 18446744073709551615 else a / b : Nat) : Int), ((a % b : Nat) : Int)) := by
  unfold mul_divu.f
  by_cases h : b = 0
  · subst h; rw [if_pos (show ((0 : Nat) : Int) = 0 from rfl), if_pos rfl, Nat.mod_zero]; rfl
  · have hq : a / b ≤ a := Nat.div_le_self _ _
    rw [if_neg (by omega), if_neg h, tdiv_nat, tmod_nat, u64_nat _ (by omega)]
theorem divu_lt (a b : Nat) (ha : a < 18446744073709551616) : (if b = 0 then 18446744073709551615 else a / b) < 18446744073709551616 := by
  have hq : a / b ≤ a := Nat.div_le_self _ _
  split <;> omega
theorem mod_lt64 (a b : Nat) (ha : a < 18446744073709551616) : a % b < 18446744073709551616 := by
  have hq : a % b ≤ a := Nat.mod_le _ _
  omega
theorem low_true (a : Nat) (ha : a < 18446744073709551616) : mul_low.f (a : Int) true = some ((sextW a 32 : Nat) : Int) := by
  unfold mul_low.f
  rw [if_pos rfl, word_Sext32_is a ha]; rfl
theorem low_false (a : Nat) : mul_low.f (a : Int) false = some ((a % 4294967296 : Nat) : Int) := by
  unfold mul_low.f
  rw [if_neg (by decide)]; simp
theorem tmod32 (a : Nat) : Int.tmod (a : Int) 4294967296 = ((a % 4294967296 : Nat) : Int) := tmod_nat a 4294967296
theorem left_s (a b : Nat) (ha : a < 18446744073709551616) (hb : b < 18446744073709551616) (m : Nat) (op : Int) (hop : op = 69 ∨ op = 71) : mul_Do.f (m + 5) op (a : Int) (b : Int) = (mul_div.f (wrap64 ((sextW a 32 : Nat) : Int)) (wrap64 ((sextW b 32 : Nat) : Int))).bind fun p => (mul_divu.f ((sextW a 32 : Nat) : Int) ((sextW b 32 : Nat) : Int)).bind fun q => (word_Sext32.f (IntKind.u64.wrap (if op = 69 then p.1 else p.2))).bind fun t => some (t, true) := by
  have e0 : mul_Do.f (m + 5) op (a : Int) (b : Int) = (mul_low.f (a : Int) true).bind fun x => (mul_low.f (b : Int) true).bind fun y => mul_Do.j1 (m + 4) op x y := by rcases hop with rfl | rfl <;> rfl
  rw [e0, low_true a ha, Option.bind_some, low_true b hb, Option.bind_some]
  rcases hop with rfl | rfl <;> rfl
theorem left_u (a b : Nat) (m : Nat) (op : Int) (hop : op = 70 ∨ op = 72) : mul_Do.f (m + 5) op (a : Int) (b : Int) = (mul_div.f (wrap64 ((a % 4294967296 : Nat) : Int)) (wrap64 ((b % 4294967296 : Nat) : Int))).bind fun p => (mul_divu.f ((a % 4294967296 : Nat) : Int) ((b % 4294967296 : Nat) : Int)).bind fun q => (word_Sext32.f (if op = 70 then q.1 else q.2)).bind fun t => some (t, true) := by
  have e0 : mul_Do.f (m + 5) op (a : Int) (b : Int) = (mul_low.f (a : Int) false).bind fun x => (mul_low.f (b : Int) false).bind fun y => mul_Do.j3 (m + 2) op x y := by rcases hop with rfl | rfl <;> rfl
  rw [e0, low_false a, Option.bind_some, low_false b, Option.bind_some]
  rcases hop with rfl | rfl <;> rfl
section
variable (a b : Nat) (ha : a < 18446744073709551616) (hb : b < 18446744073709551616) (m : Nat) (hm : 150 ≤ m)
include ha hb hm
theorem Do_60 : ∃ x : Nat, x < 18446744073709551616 ∧ mul_Do.f (m + 5) 60 (a : Int) (b : Int) = some ((x : Int), true) ∧ vireoref06_Do.f (m + 5) 60 (a : Int) (b : Int) = some ((x : Int), true) := by
  have e1 : mul_Do.f (m + 5) 60 (a : Int) (b : Int) = some (IntKind.u64.wrap ((a : Int) * b), true) := rfl
  refine ⟨a * b % 18446744073709551616, by omega, ?_, ?_⟩
  · rw [e1, IntKind.wrap_u64]; simp
  · unfold vireoref06_Do.f
    rw [vireoref01_Sext_is a ha 32 _ (by omega), Option.bind_some, vireoref01_Sext_is b hb 32 _ (by omega), Option.bind_some, if_pos rfl, vireoref06_Product_is a b ha hb _ (by omega), Option.bind_some]
theorem Do_63 : ∃ x : Nat, x < 18446744073709551616 ∧ mul_Do.f (m + 5) 63 (a : Int) (b : Int) = some ((x : Int), true) ∧ vireoref06_Do.f (m + 5) 63 (a : Int) (b : Int) = some ((x : Int), true) := by
  have e1 : mul_Do.f (m + 5) 63 (a : Int) (b : Int) = (mul_High.f (a : Int) (b : Int)).bind fun t => some (t, true) := rfl
  have hl := mul_lt ha hb
  refine ⟨a * b / 18446744073709551616, by omega, ?_, ?_⟩
  · rw [e1, mul_High_is a b ha hb]; rfl
  · unfold vireoref06_Do.f
    rw [vireoref01_Sext_is a ha 32 _ (by omega), Option.bind_some, vireoref01_Sext_is b hb 32 _ (by omega), Option.bind_some, if_neg (by decide), if_neg (by decide), if_neg (by decide), if_pos rfl, vireoref06_Product_is a b ha hb _ (by omega), Option.bind_some]
theorem Do_61 : ∃ x : Nat, x < 18446744073709551616 ∧ mul_Do.f (m + 5) 61 (a : Int) (b : Int) = some ((x : Int), true) ∧ vireoref06_Do.f (m + 5) 61 (a : Int) (b : Int) = some ((x : Int), true) := by
  have e1 : mul_Do.f (m + 5) 61 (a : Int) (b : Int) = (mul_HighSigned.f (a : Int) (b : Int) true).bind fun t => some (t, true) := rfl
  obtain ⟨x, hx, hx2⟩ : ∃ x : Nat, highS a b true = (x : Int) ∧ x < 18446744073709551616 := ⟨(highS a b true).toNat, by unfold highS; omega, by unfold highS; omega⟩
  refine ⟨x, hx2, ?_, ?_⟩
  · rw [e1, mul_HighSigned_is a b true ha hb, hx]; rfl
  · unfold vireoref06_Do.f
    obtain ⟨lo, hs⟩ := vireoref06_Signed_is a b true ha hb (m + 5) (by omega)
    rw [vireoref01_Sext_is a ha 32 _ (by omega), Option.bind_some, vireoref01_Sext_is b hb 32 _ (by omega), Option.bind_some, if_neg (by decide), if_pos rfl, hs, Option.bind_some, hx]
theorem Do_62 : ∃ x : Nat, x < 18446744073709551616 ∧ mul_Do.f (m + 5) 62 (a : Int) (b : Int) = some ((x : Int), true) ∧ vireoref06_Do.f (m + 5) 62 (a : Int) (b : Int) = some ((x : Int), true) := by
  have e1 : mul_Do.f (m + 5) 62 (a : Int) (b : Int) = (mul_HighSigned.f (a : Int) (b : Int) false).bind fun t => some (t, true) := rfl
  obtain ⟨x, hx, hx2⟩ : ∃ x : Nat, highS a b false = (x : Int) ∧ x < 18446744073709551616 := ⟨(highS a b false).toNat, by unfold highS; omega, by unfold highS; omega⟩
  refine ⟨x, hx2, ?_, ?_⟩
  · rw [e1, mul_HighSigned_is a b false ha hb, hx]; rfl
  · unfold vireoref06_Do.f
    obtain ⟨lo, hs⟩ := vireoref06_Signed_is a b false ha hb (m + 5) (by omega)
    rw [vireoref01_Sext_is a ha 32 _ (by omega), Option.bind_some, vireoref01_Sext_is b hb 32 _ (by omega), Option.bind_some, if_neg (by decide), if_neg (by decide), if_pos rfl, hs, Option.bind_some, hx]
theorem Do_68 : ∃ x : Nat, x < 18446744073709551616 ∧ mul_Do.f (m + 5) 68 (a : Int) (b : Int) = some ((x : Int), true) ∧ vireoref06_Do.f (m + 5) 68 (a : Int) (b : Int) = some ((x : Int), true) ∧ x = sextW (a * b) 32 := by
  have e1 : mul_Do.f (m + 5) 68 (a : Int) (b : Int) = (word_Sext32.f (IntKind.u64.wrap ((a : Int) * b))).bind fun t => some (t, true) := rfl
  refine ⟨sextW (a * b) 32, sext32_lt _, ?_, ?_, rfl⟩
  · have e2 : IntKind.u64.wrap ((a : Int) * b) = ((a * b % 18446744073709551616 : Nat) : Int) := by rw [IntKind.wrap_u64]; simp
    rw [e1, e2, word_Sext32_is _ (by omega), Option.bind_some, sext32_low (x := a * b % 18446744073709551616) (y := a * b) (by omega)]
  · unfold vireoref06_Do.f
    rw [vireoref01_Sext_is a ha 32 _ (by omega), Option.bind_some, vireoref01_Sext_is b hb 32 _ (by omega), Option.bind_some, if_neg (by decide), if_neg (by decide), if_neg (by decide), if_neg (by decide), if_pos rfl, tmod32, tmod32,
      vireoref06_Product_is _ _ (by omega) (by omega) _ (by omega), Option.bind_some, vireoref01_Sext_is _ (by omega) 32 _ (by omega), Option.bind_some]
    rw [sext32_low (x := a % 4294967296 * (b % 4294967296) % 18446744073709551616) (y := a * b)]
    rw [Nat.mod_mod_of_dvd _ (by decide), ← Nat.mul_mod]
theorem ref_j0 (op : Int) (hop : op = 64 ∨ op = 66) : vireoref06_Do.f (m + 5) op (a : Int) (b : Int) = (vireoref06_SignedQuotient.f (m + 4) (a : Int) (b : Int)).bind fun p => (vireoref06_choose.f (op == 64) p.1 p.2).bind fun t => some (t, true) := by
  unfold vireoref06_Do.f
  rw [vireoref01_Sext_is a ha 32 _ (by omega), Option.bind_some, vireoref01_Sext_is b hb 32 _ (by omega), Option.bind_some]
  rcases hop with rfl | rfl <;> rfl
theorem ref_j1 (op : Int) (hop : op = 65 ∨ op = 67) : vireoref06_Do.f (m + 5) op (a : Int) (b : Int) = (vireoref06_Unsigned.f (m + 3) (a : Int) (b : Int)).bind fun p => (vireoref06_choose.f (op == 65) p.1 p.2).bind fun t => some (t, true) := by
  unfold vireoref06_Do.f
  rw [vireoref01_Sext_is a ha 32 _ (by omega), Option.bind_some, vireoref01_Sext_is b hb 32 _ (by omega), Option.bind_some]
  rcases hop with rfl | rfl <;> rfl
theorem ref_j2 (op : Int) (hop : op = 69 ∨ op = 71) : vireoref06_Do.f (m + 5) op (a : Int) (b : Int) = (vireoref06_SignedQuotient.f (m + 2) ((sextW a 32 : Nat) : Int) ((sextW b 32 : Nat) : Int)).bind fun p => (vireoref06_choose.f (op == 69) p.1 p.2).bind fun t => (vireoref01_Sext.f (m + 2) t 32).bind fun t => some (t, true) := by
  unfold vireoref06_Do.f
  rw [vireoref01_Sext_is a ha 32 _ (by omega), Option.bind_some, vireoref01_Sext_is b hb 32 _ (by omega), Option.bind_some]
  rcases hop with rfl | rfl <;> rfl
theorem ref_j3 (op : Int) (hop : op = 70 ∨ op = 72) : vireoref06_Do.f (m + 5) op (a : Int) (b : Int) = (vireoref06_Unsigned.f (m + 1) ((a % 4294967296 : Nat) : Int) ((b % 4294967296 : Nat) : Int)).bind fun p => (vireoref06_choose.f (op == 70) p.1 p.2).bind fun t => (vireoref01_Sext.f (m + 1) t 32).bind fun t => some (t, true) := by
  unfold vireoref06_Do.f
  rw [vireoref01_Sext_is a ha 32 _ (by omega), Option.bind_some, vireoref01_Sext_is b hb 32 _ (by omega), Option.bind_some, tmod32, tmod32]
  rcases hop with rfl | rfl <;> rfl
theorem Do_64 : ∃ x : Nat, x < 18446744073709551616 ∧ mul_Do.f (m + 5) 64 (a : Int) (b : Int) = some ((x : Int), true) ∧ vireoref06_Do.f (m + 5) 64 (a : Int) (b : Int) = some ((x : Int), true) ∧ ∃ p, mul_div.f (sI a) (sI b) = some p ∧ IntKind.u64.wrap p.1 = (x : Int) := by
  have e1 : mul_Do.f (m + 5) 64 (a : Int) (b : Int) = (mul_div.f (wrap64 (a : Int)) (wrap64 (b : Int))).bind fun p => (mul_divu.f (a : Int) (b : Int)).bind fun q => some (IntKind.u64.wrap p.1, true) := rfl
  obtain ⟨p, hp⟩ := mul_div_some (sI a) (sI b)
  obtain ⟨x, hx, hx2⟩ := u64_cast p.1
  refine ⟨x, hx2, ?_, ?_, p, hp, hx⟩
  · rw [e1, wrap64_sI a ha, wrap64_sI b hb, hp, Option.bind_some, mul_divu_nat a b ha hb, Option.bind_some, hx]
  · rw [ref_j0 a b ha hb m hm 64 (.inl rfl), vireoref06_SignedQuotient_is a b ha hb _ (by omega), hp, Option.bind_some, Option.bind_some, hx]; rfl
theorem Do_66 : ∃ x : Nat, x < 18446744073709551616 ∧ mul_Do.f (m + 5) 66 (a : Int) (b : Int) = some ((x : Int), true) ∧ vireoref06_Do.f (m + 5) 66 (a : Int) (b : Int) = some ((x : Int), true) ∧ ∃ p, mul_div.f (sI a) (sI b) = some p ∧ IntKind.u64.wrap p.2 = (x : Int) := by
  have e1 : mul_Do.f (m + 5) 66 (a : Int) (b : Int) = (mul_div.f (wrap64 (a : Int)) (wrap64 (b : Int))).bind fun p => (mul_divu.f (a : Int) (b : Int)).bind fun q => some (IntKind.u64.wrap p.2, true) := rfl
  obtain ⟨p, hp⟩ := mul_div_some (sI a) (sI b)
  obtain ⟨x, hx, hx2⟩ := u64_cast p.2
  refine ⟨x, hx2, ?_, ?_, p, hp, hx⟩
  · rw [e1, wrap64_sI a ha, wrap64_sI b hb, hp, Option.bind_some, mul_divu_nat a b ha hb, Option.bind_some, hx]
  · rw [ref_j0 a b ha hb m hm 66 (.inr rfl), vireoref06_SignedQuotient_is a b ha hb _ (by omega), hp, Option.bind_some, Option.bind_some, hx]; rfl
theorem Do_65 : mul_Do.f (m + 5) 65 (a : Int) (b : Int) = some (((if b = 0 then 18446744073709551615 else a / b : Nat) : Int), true) ∧ vireoref06_Do.f (m + 5) 65 (a : Int) (b : Int) = some (((if b = 0 then 18446744073709551615 else a / b : Nat) : Int), true) := by
  have e1 : mul_Do.f (m + 5) 65 (a : Int) (b : Int) = (mul_div.f (wrap64 (a : Int)) (wrap64 (b : Int))).bind fun p => (mul_divu.f (a : Int) (b : Int)).bind fun q => some (q.1, true) := rfl
  obtain ⟨p, hp⟩ := mul_div_some (sI a) (sI b)
  constructor
  · rw [e1, wrap64_sI a ha, wrap64_sI b hb, hp, Option.bind_some, mul_divu_nat a b ha hb, Option.bind_some]
  · rw [ref_j1 a b ha hb m hm 65 (.inl rfl), vireoref06_Unsigned_is a b ha hb _ (by omega), mul_divu_nat a b ha hb, Option.bind_some]; rfl
theorem Do_67 : mul_Do.f (m + 5) 67 (a : Int) (b : Int) = some (((a % b : Nat) : Int), true) ∧ vireoref06_Do.f (m + 5) 67 (a : Int) (b : Int) = some (((a % b : Nat) : Int), true) := by
  have e1 : mul_Do.f (m + 5) 67 (a : Int) (b : Int) = (mul_div.f (wrap64 (a : Int)) (wrap64 (b : Int))).bind fun p => (mul_divu.f (a : Int) (b : Int)).bind fun q => some (q.2, true) := rfl
  obtain ⟨p, hp⟩ := mul_div_some (sI a) (sI b)
  constructor
  · rw [e1, wrap64_sI a ha, wrap64_sI b hb, hp, Option.bind_some, mul_divu_nat a b ha hb, Option.bind_some]
  · rw [ref_j1 a b ha hb m hm 67 (.inr rfl), vireoref06_Unsigned_is a b ha hb _ (by omega), mul_divu_nat a b ha hb, Option.bind_some]; rfl
/-- An operation on the low halves: what it comes to hangs on these alone, and is a number of 32 bits with its sign. -/
def HalfDo (op : Int) : Prop := ∃ y : Nat, mul_Do.f (m + 5) op (a : Int) (b : Int) = some (((sextW y 32 : Nat) : Int), true) ∧ vireoref06_Do.f (m + 5) op (a : Int) (b : Int) = some (((sextW y 32 : Nat) : Int), true)
theorem Do_s (op : Int) (hop : op = 69 ∨ op = 71) : HalfDo a b m op := by
  have hsa := sext32_lt a
  have hsb := sext32_lt b
  obtain ⟨p, hp⟩ := mul_div_some (sI (sextW a 32)) (sI (sextW b 32))
  obtain ⟨x, hx, hx2⟩ := u64_cast (if op = 69 then p.1 else p.2)
  refine ⟨x, ?_, ?_⟩
  · rw [left_s a b ha hb m op hop, wrap64_sI _ hsa, wrap64_sI _ hsb, hp, Option.bind_some, mul_divu_nat _ _ hsa hsb, Option.bind_some, hx, word_Sext32_is x hx2, Option.bind_some]
  · rw [ref_j2 a b ha hb m hm op hop, vireoref06_SignedQuotient_is _ _ hsa hsb _ (by omega), hp, Option.bind_some, Option.bind_some]
    have hc : vireoref06_choose.f (op == 69) (IntKind.u64.wrap p.1) (IntKind.u64.wrap p.2) = some (x : Int) := by
      rw [← hx]; rcases hop with rfl | rfl <;> rfl
    rw [hc, Option.bind_some, vireoref01_Sext_is x hx2 32 _ (by omega), Option.bind_some]
theorem Do_u (op : Int) (hop : op = 70 ∨ op = 72) : HalfDo a b m op := by
  have h1 : a % 4294967296 < 18446744073709551616 := by omega
  have h2 : b % 4294967296 < 18446744073709551616 := by omega
  obtain ⟨p, hp⟩ := mul_div_some (sI (a % 4294967296)) (sI (b % 4294967296))
  have hq := divu_lt (a % 4294967296) (b % 4294967296) h1
  have hr := mod_lt64 (a % 4294967296) (b % 4294967296) h1
  refine ⟨if op = 70 then (if b % 4294967296 = 0 then 18446744073709551615 else a % 4294967296 / (b % 4294967296)) else a % 4294967296 % (b % 4294967296), ?_, ?_⟩
  · rw [left_u a b m op hop, wrap64_sI _ h1, wrap64_sI _ h2, hp, Option.bind_some, mul_divu_nat _ _ h1 h2, Option.bind_some]
    rcases hop with rfl | rfl
    · rw [if_pos rfl, if_pos rfl, word_Sext32_is _ hq, Option.bind_some]
    · rw [if_neg (show ¬ (72 : Int) = 70 by decide), if_neg (show ¬ (72 : Int) = 70 by decide), word_Sext32_is _ hr, Option.bind_some]
  · rw [ref_j3 a b ha hb m hm op hop, vireoref06_Unsigned_is _ _ h1 h2 _ (by omega), mul_divu_nat _ _ h1 h2, Option.bind_some]
    rcases hop with rfl | rfl
    · rw [if_pos rfl]
      show (vireoref01_Sext.f (m + 1) _ 32).bind _ = _
      rw [vireoref01_Sext_is _ hq 32 _ (by omega), Option.bind_some]
    · rw [if_neg (show ¬ (72 : Int) = 70 by decide)]
      show (vireoref01_Sext.f (m + 1) _ 32).bind _ = _
      rw [vireoref01_Sext_is _ hr 32 _ (by omega), Option.bind_some]
theorem Do_half (op : Int) (hop : op = 68 ∨ op = 69 ∨ op = 70 ∨ op = 71 ∨ op = 72) : HalfDo a b m op := by
  rcases hop with rfl | rfl | rfl | rfl | rfl
  · obtain ⟨x, _, h1, h2, rfl⟩ := Do_68 a b ha hb m hm
    exact ⟨_, h1, h2⟩
  · exact Do_s a b ha hb m hm 69 (.inl rfl)
  · exact Do_u a b ha hb m hm 70 (.inl rfl)
  · exact Do_s a b ha hb m hm 71 (.inr rfl)
  · exact Do_u a b ha hb m hm 72 (.inr rfl)
theorem Do_same (op : Int) : ∃ (x : Int) (ok : Bool), mul_Do.f (m + 5) op (a : Int) (b : Int) = some (x, ok) ∧ vireoref06_Do.f (m + 5) op (a : Int) (b : Int) = some (x, ok) := by
  by_cases h60 : op = 60
  · subst h60; obtain ⟨x, _, h1, h2⟩ := Do_60 a b ha hb m hm; exact ⟨_, _, h1, h2⟩
  by_cases h61 : op = 61
  · subst h61; obtain ⟨x, _, h1, h2⟩ := Do_61 a b ha hb m hm; exact ⟨_, _, h1, h2⟩
  by_cases h62 : op = 62
  · subst h62; obtain ⟨x, _, h1, h2⟩ := Do_62 a b ha hb m hm; exact ⟨_, _, h1, h2⟩
  by_cases h63 : op = 63
  · subst h63; obtain ⟨x, _, h1, h2⟩ := Do_63 a b ha hb m hm; exact ⟨_, _, h1, h2⟩
  by_cases h64 : op = 64
  · subst h64; obtain ⟨x, _, h1, h2, _⟩ := Do_64 a b ha hb m hm; exact ⟨_, _, h1, h2⟩
  by_cases h65 : op = 65
  · subst h65; obtain ⟨h1, h2⟩ := Do_65 a b ha hb m hm; exact ⟨_, _, h1, h2⟩
  by_cases h66 : op = 66
  · subst h66; obtain ⟨x, _, h1, h2, _⟩ := Do_66 a b ha hb m hm; exact ⟨_, _, h1, h2⟩
  by_cases h67 : op = 67
  · subst h67; obtain ⟨h1, h2⟩ := Do_67 a b ha hb m hm; exact ⟨_, _, h1, h2⟩
  by_cases hh : op = 68 ∨ op = 69 ∨ op = 70 ∨ op = 71 ∨ op = 72
  · obtain ⟨y, h1, h2⟩ := Do_half a b ha hb m hm op hh; exact ⟨_, _, h1, h2⟩
  have n68 : ¬ op = 68 := fun h => hh (.inl h)
  have n69 : ¬ op = 69 := fun h => hh (.inr (.inl h))
  have n70 : ¬ op = 70 := fun h => hh (.inr (.inr (.inl h)))
  have n71 : ¬ op = 71 := fun h => hh (.inr (.inr (.inr (.inl h))))
  have n72 : ¬ op = 72 := fun h => hh (.inr (.inr (.inr (.inr h))))
  have b64 := beq_eq_false_iff_ne.mpr h64
  have b66 := beq_eq_false_iff_ne.mpr h66
  have b67 := beq_eq_false_iff_ne.mpr h67
  have b71 := beq_eq_false_iff_ne.mpr n71
  have b72 := beq_eq_false_iff_ne.mpr n72
  obtain ⟨p, hp⟩ := mul_div_some (sI a) (sI b)
  refine ⟨0, false, ?_, ?_⟩
  · unfold mul_Do.f
    rw [if_neg h60, if_neg h61, if_neg h62, if_neg h63, if_neg n68, if_neg n69, b71]
    simp only [mul_Do.j0]
    rw [if_neg (show ¬ (false = true) by decide)]
    simp only [mul_Do.j1]
    rw [if_neg n70, b72]
    simp only [mul_Do.j2]
    rw [if_neg (show ¬ (false = true) by decide)]
    simp only [mul_Do.j3]
    rw [wrap64_sI a ha, wrap64_sI b hb, hp, Option.bind_some, mul_divu_nat a b ha hb, Option.bind_some, if_neg h64, if_neg h65, if_neg h66, if_neg h67, if_neg n69, if_neg n70, if_neg n71, if_neg n72]
  · unfold vireoref06_Do.f
    rw [vireoref01_Sext_is a ha 32 _ (by omega), Option.bind_some, vireoref01_Sext_is b hb 32 _ (by omega), Option.bind_some, if_neg h60, if_neg h61, if_neg h62, if_neg h63, if_neg n68, if_neg h64, b66]
    simp only [vireoref06_Do.j0]
    rw [if_neg (show ¬ (false = true) by decide), if_neg h65, b67]
    simp only [vireoref06_Do.j1]
    rw [if_neg (show ¬ (false = true) by decide), if_neg n69, b71]
    simp only [vireoref06_Do.j2]
    rw [if_neg (show ¬ (false = true) by decide), if_neg n70, b72]
    simp only [vireoref06_Do.j3]
    rw [if_neg (show ¬ (false = true) by decide)]
end
end Go.Proofs.Ytomomaldkliofaa.Pure
