import Derived.Test.YtlhdildnekllhaaLw
import Derived.OpenShut
import Derived.Laws.BitsAllLaws
import Derived.Test.YtlhdildnekllhaaVw
namespace Go.Proofs.Ytlhdildnekllhaa.Pure
open Go.RowKit Go.Proofs.Ytlhdildnekllhaa.PAl Go.Proofs.YtlhdildnekllhaaW.PrintWords Go.Proofs.YtlhdildnekllhaaW.PrintLast
open Go.Proofs.Ytlhdildnekllhaa.Vw
set_option linter.unusedVariables false
set_option linter.unusedSimpArgs false

theorem u64_nat (n : Nat) (h : n < 18446744073709551616) : IntKind.u64.wrap (n : Int) = (n : Int) := by rw [IntKind.wrap_u64]; omega
theorem u64_id (n : Int) (h0 : 0 ≤ n) (h : n < 18446744073709551616) : IntKind.u64.wrap n = n := by rw [IntKind.wrap_u64]; omega
theorem w64_id (n : Int) (h0 : -9223372036854775808 ≤ n) (h : n < 9223372036854775808) : wrap64 n = n := by unfold wrap64; omega
theorem w64_nat (n : Nat) (h : n < 9223372036854775808) : wrap64 (n : Int) = (n : Int) := w64_id _ (by omega) (by omega)
theorem tdiv_nat (a b : Nat) : Int.tdiv (a : Int) (b : Int) = ((a / b : Nat) : Int) := by rw [Int.tdiv_eq_ediv_of_nonneg (by omega)]; simp
theorem tmod_nat (a b : Nat) : Int.tmod (a : Int) (b : Int) = ((a % b : Nat) : Int) := by rw [Int.tmod_eq_emod_of_nonneg (by omega)]; simp
theorem u64_of_wf {n : Int} (h : (Lit.int .u64 n).wf = true) : ∃ x : Nat, n = (x : Int) ∧ x < 18446744073709551616 := by
  have := bounds_u64 h
  exact ⟨n.toNat, by omega, by omega⟩
theorem i64_of_wf {n : Int} (h : (Lit.int .i64 n).wf = true) : -9223372036854775808 ≤ n ∧ n ≤ 9223372036854775807 := bounds_i64 h
theorem rd_bl (f : Nat → Bool) (n i : Nat) (h : i < n) : rd (bl f n) (i : Int) = bi (f i) := by
  unfold rd
  rw [Int.toNat_natCast]
  exact bl_get f n i h
theorem two64 : (2 : Nat) ^ 64 = 18446744073709551616 := by decide
theorem and_nat (a b : Nat) (ha : a < 18446744073709551616) (hb : b < 18446744073709551616) : Go.bits .and .u64 (a : Int) (b : Int) = ((a &&& b : Nat) : Int) := u64_and_nat a b ha hb
theorem or_nat (a b : Nat) (ha : a < 18446744073709551616) (hb : b < 18446744073709551616) : Go.bits .or .u64 (a : Int) (b : Int) = ((a ||| b : Nat) : Int) := u64_or_nat a b ha hb
theorem xor_nat (a b : Nat) (ha : a < 18446744073709551616) (hb : b < 18446744073709551616) : Go.bits .xor .u64 (a : Int) (b : Int) = ((a ^^^ b : Nat) : Int) := u64_xor_nat a b ha hb
theorem andNot_nat (a b : Nat) (ha : a < 18446744073709551616) (hb : b < 18446744073709551616) : Go.bits .andNot .u64 (a : Int) (b : Int) = ((a &&& (18446744073709551615 - b) : Nat) : Int) := u64_andNot_nat a b ha hb
theorem and_lt {a b : Nat} (ha : a < 18446744073709551616) : a &&& b < 18446744073709551616 := Nat.lt_of_le_of_lt Nat.and_le_left ha
theorem or_lt {a b : Nat} (ha : a < 18446744073709551616) (hb : b < 18446744073709551616) : a ||| b < 18446744073709551616 := by
  have := Nat.or_lt_two_pow (n := 64) (x := a) (y := b) (by rw [two64]; exact ha) (by rw [two64]; exact hb)
  rw [two64] at this; exact this
theorem xor_lt {a b : Nat} (ha : a < 18446744073709551616) (hb : b < 18446744073709551616) : a ^^^ b < 18446744073709551616 := by
  have := Nat.xor_lt_two_pow (n := 64) (x := a) (y := b) (by rw [two64]; exact ha) (by rw [two64]; exact hb)
  rw [two64] at this; exact this
theorem not_nat (b : Nat) (hb : b < 18446744073709551616) : Go.bits .xor .u64 18446744073709551615 (b : Int) = ((18446744073709551615 - b : Nat) : Int) := by
  have h := xor_nat 18446744073709551615 b (by omega) hb
  have e : (18446744073709551615 : Nat) ^^^ b = 18446744073709551615 - b := by
    apply Nat.eq_of_testBit_eq
    intro i
    rw [Nat.testBit_xor]
    have e1 : (18446744073709551615 : Nat) = 2 ^ 64 - 1 := by decide
    have e2 : (18446744073709551615 : Nat) - b = 2 ^ 64 - (b + 1) := by rw [two64]; omega
    rw [e2, Nat.testBit_two_pow_sub_succ (by rw [two64]; exact hb), e1, Nat.testBit_two_pow_sub_one]
    by_cases hi : i < 64
    · simp [hi]
    · have : b < 2 ^ i := Nat.lt_of_lt_of_le hb (by rw [← two64]; exact Nat.pow_le_pow_right (by decide) (by omega))
      simp [hi, Nat.testBit_lt_two_pow this]
  rw [e] at h
  exact h
theorem tb_not (b i : Nat) (hb : b < 18446744073709551616) : (18446744073709551615 - b).testBit i = (decide (i < 64) && !b.testBit i) := by
  have e2 : (18446744073709551615 : Nat) - b = 2 ^ 64 - (b + 1) := by rw [two64]; omega
  rw [e2, Nat.testBit_two_pow_sub_succ (by rw [two64]; exact hb)]
theorem eq64 {x y : Nat} (hx : x < 18446744073709551616) (hy : y < 18446744073709551616) (h : ∀ i, i < 64 → x.testBit i = y.testBit i) : x = y :=
  eq_of_bits (n := 64) (by rw [two64]; exact hx) (by rw [two64]; exact hy) h
theorem ob64 {x : Nat} (h : x < 18446744073709551616) : ob x.testBit 64 = x := ob_testBit (by rw [two64]; exact h)
theorem ob64_lt (f : Nat → Bool) : ob f 64 < 18446744073709551616 := by have := ob_lt f 64; rw [two64] at this; exact this
theorem shr_nat (x i : Nat) (hi : i ≤ 64) : shr .u64 (x : Int) (i : Int) = ((x / 2 ^ i : Nat) : Int) := by
  unfold shr
  rw [Int.toNat_natCast, Nat.min_eq_left (by simpa [IntKind.bits] using hi)]
  simp
theorem shl_nat (x i : Nat) (hi : i ≤ 64) : shl .u64 (x : Int) (i : Int) = ((x * 2 ^ i % 18446744073709551616 : Nat) : Int) := by
  unfold shl
  rw [Int.toNat_natCast, Nat.min_eq_left (by simpa [IntKind.bits] using hi), IntKind.wrap_u64]
  simp
theorem tb_shl (x s i : Nat) : (x * 2 ^ s % 18446744073709551616).testBit i = (decide (i < 64) && (decide (s ≤ i) && x.testBit (i - s))) := by
  rw [← two64, Nat.testBit_mod_two_pow, Nat.testBit_mul_two_pow]
theorem tb_shr (x s i : Nat) : (x / 2 ^ s).testBit i = x.testBit (s + i) := by
  rw [Nat.testBit_div_two_pow, Nat.add_comm]
/-- How many bits a number of bits asks for: at most 64. -/
def cnt (n : Int) : Nat := min n.toNat 64
theorem cnt_le (n : Int) : cnt n ≤ 64 := by unfold cnt; omega
theorem mn64 (n : Int) (i : Nat) : ((i : Int) < mn n 64) ↔ i < cnt n := by
  unfold mn cnt
  split <;> omega
def mask (n : Int) : Nat := 2 ^ cnt n - 1
theorem mask_lt (n : Int) : mask n < 18446744073709551616 := by
  unfold mask
  have h1 : 2 ^ cnt n ≤ 2 ^ 64 := Nat.pow_le_pow_right (by decide) (cnt_le n)
  have h2 : 0 < 2 ^ cnt n := Nat.two_pow_pos _
  rw [two64] at h1; omega
theorem tb_mask (n : Int) (i : Nat) : (mask n).testBit i = decide (i < cnt n) := by unfold mask; rw [Nat.testBit_two_pow_sub_one]
def getW (x : Nat) (at_ n : Int) : Nat := if 0 ≤ at_ ∧ at_ ≤ 63 then x / 2 ^ at_.toNat % 2 ^ cnt n else 0
theorem getW_lt {x : Nat} (h : x < 18446744073709551616) (at_ n : Int) : getW x at_ n < 18446744073709551616 := by
  unfold getW
  split
  · have h1 : x / 2 ^ at_.toNat % 2 ^ cnt n ≤ x / 2 ^ at_.toNat := Nat.mod_le _ _
    have h2 : x / 2 ^ at_.toNat ≤ x := Nat.div_le_self _ _
    omega
  · omega
theorem tb_getW (x : Nat) (at_ n : Int) (i : Nat) : (getW x at_ n).testBit i = (decide (0 ≤ at_ ∧ at_ ≤ 63) && (decide (i < cnt n) && x.testBit (at_.toNat + i))) := by
  unfold getW
  split
  · rename_i h
    rw [Nat.testBit_mod_two_pow, tb_shr]
    simp [h]
  · rename_i h
    simp [h]
def sextW (x : Nat) (n : Int) : Nat := if n ≤ 0 then 0 else if 64 ≤ n then x else ob (fun i => x.testBit (if i < n.toNat then i else n.toNat - 1)) 64
def putW (x : Nat) (at_ n : Int) (v : Nat) : Nat := if 0 ≤ at_ ∧ at_ ≤ 63 then ob (fun i => if at_.toNat ≤ i ∧ i < at_.toNat + cnt n then v.testBit (i - at_.toNat) else x.testBit i) 64 else x
theorem sextW_lt {x : Nat} (h : x < 18446744073709551616) (n : Int) : sextW x n < 18446744073709551616 := by
  unfold sextW
  split
  · omega
  · split
    · exact h
    · exact ob64_lt _
theorem putW_lt {x : Nat} (h : x < 18446744073709551616) (at_ n : Int) (v : Nat) : putW x at_ n v < 18446744073709551616 := by
  unfold putW
  split
  · exact ob64_lt _
  · exact h
theorem word_Mask_is (n : Int) : word_Mask.f n = some ((mask n : Nat) : Int) := by
  unfold word_Mask.f mask cnt
  by_cases h0 : n ≤ 0
  · rw [if_pos h0, show n.toNat = 0 by omega]; rfl
  · rw [if_neg h0]
    by_cases h1 : n ≥ 64
    · rw [if_pos h1, show min n.toNat 64 = 64 by omega]; rfl
    · rw [if_neg h1, if_pos (by omega)]
      obtain ⟨m, rfl⟩ := Int.eq_ofNat_of_zero_le (a := n) (by omega)
      have hm : m < 64 := by omega
      have e := shl_nat 1 m (by omega)
      have hp : 2 ^ m < 2 ^ 64 := Nat.pow_lt_pow_right (by decide) hm
      have hp0 : 0 < 2 ^ m := Nat.two_pow_pos _
      rw [two64] at hp
      rw [show ((1 : Int)) = ((1 : Nat) : Int) from rfl, e, Int.toNat_natCast, Nat.one_mul, Nat.mod_eq_of_lt hp, Nat.min_eq_left (by omega), u64_id _ (by omega) (by omega)]
      congr 1
      omega
theorem word_Get_is (x : Nat) (at_ n : Int) (hx : x < 18446744073709551616) : word_Get.f (x : Int) at_ n = some ((getW x at_ n : Nat) : Int) := by
  unfold word_Get.f
  by_cases h0 : at_ < 0
  · rw [if_pos h0]; unfold getW; rw [if_neg (by omega)]; rfl
  · rw [if_neg h0]
    by_cases h1 : at_ > 63
    · rw [if_pos h1]; unfold getW; rw [if_neg (by omega)]; rfl
    · rw [if_neg h1, if_pos (by omega), word_Mask_is]
      simp only [Option.bind_some]
      obtain ⟨a, rfl⟩ := Int.eq_ofNat_of_zero_le (a := at_) (by omega)
      rw [shr_nat x a (by omega), and_nat _ _ (Nat.lt_of_le_of_lt (Nat.div_le_self _ _) hx) (mask_lt n)]
      unfold getW mask
      rw [if_pos (by omega), Nat.and_two_pow_sub_one_eq_mod, Int.toNat_natCast]
theorem getW_one (x : Nat) (at_ : Int) : getW x at_ 1 = if (decide (0 ≤ at_ ∧ at_ ≤ 63) && x.testBit at_.toNat) = true then 1 else 0 := by
  unfold getW
  by_cases h : 0 ≤ at_ ∧ at_ ≤ 63
  · rw [if_pos h, show cnt 1 = 1 from rfl]
    have := bit_at x at_.toNat
    have h2 := Nat.mod_two_eq_zero_or_one (x / 2 ^ at_.toNat)
    simp only [Nat.pow_one]
    rw [Nat.testBit_eq_decide_div_mod_eq]
    rcases h2 with e | e <;> simp [h, e]
  · rw [if_neg h]; simp [h]
theorem word_Bit_is (x : Nat) (at_ : Int) (hx : x < 18446744073709551616) : word_Bit.f (x : Int) at_ = some (decide (0 ≤ at_ ∧ at_ ≤ 63) && x.testBit at_.toNat) := by
  unfold word_Bit.f
  rw [word_Get_is x at_ 1 hx, getW_one]
  simp only [Option.bind_some]
  split <;> rename_i h
  · rw [h]; rfl
  · rw [Bool.not_eq_true] at h; rw [h]; rfl
theorem word_Sext_is (k : Nat) (hk : 0 < k) (x : Nat) (n : Int) (hx : x < 18446744073709551616) (hn : -9223372036854775808 ≤ n ∧ n ≤ 9223372036854775807) : word_Sext.f k (x : Int) n = some ((sextW x n : Nat) : Int) := by
  obtain ⟨k, rfl⟩ : ∃ m, k = m + 1 := ⟨k - 1, by omega⟩
  have hm := mask_lt n
  have ham : Go.bits .and .u64 (x : Int) ((mask n : Nat) : Int) = ((x &&& mask n : Nat) : Int) := and_nat _ _ hx hm
  have hand : x &&& mask n = x % 2 ^ cnt n := by unfold mask; rw [Nat.and_two_pow_sub_one_eq_mod]
  unfold word_Sext.f
  by_cases h0 : n ≤ 0
  · rw [if_pos h0]
    simp only [word_Sext.j0, if_true]
    rw [word_Mask_is]
    simp only [Option.bind_some]
    rw [ham, hand]
    unfold sextW
    rw [if_pos h0, show cnt n = 0 by unfold cnt; omega]
    simp [Nat.mod_one]
  · rw [if_neg h0]
    by_cases h1 : n ≥ 64
    · simp only [word_Sext.j0, h1, decide_true, if_true]
      rw [word_Mask_is]
      simp only [Option.bind_some]
      rw [ham, hand]
      unfold sextW
      rw [if_neg h0, if_pos h1, show cnt n = 64 by unfold cnt; omega, two64, Nat.mod_eq_of_lt hx]
    · simp only [word_Sext.j0, h1, decide_false, Bool.false_eq_true, if_false]
      rw [word_Mask_is]
      simp only [Option.bind_some]
      obtain ⟨m, rfl⟩ := Int.eq_ofNat_of_zero_le (a := n) (by omega)
      have hc : cnt (m : Int) = m := by unfold cnt; rw [Int.toNat_natCast]; omega
      rw [ham, hand, w64_id _ (by omega) (by omega), word_Bit_is _ _ (Nat.lt_of_le_of_lt (Nat.mod_le _ _) hx)]
      simp only [Option.bind_some]
      have hlt : x % 2 ^ cnt (m : Int) < 18446744073709551616 := Nat.lt_of_le_of_lt (Nat.mod_le _ _) hx
      have e1 : ((m : Int) - 1).toNat = m - 1 := by omega
      have hb : (decide (0 ≤ (m : Int) - 1 ∧ (m : Int) - 1 ≤ 63) && (x % 2 ^ cnt (m : Int)).testBit ((m : Int) - 1).toNat) = x.testBit (m - 1) := by
        rw [e1, hc, Nat.testBit_mod_two_pow]
        have : 0 ≤ (m : Int) - 1 ∧ (m : Int) - 1 ≤ 63 := by omega
        rw [decide_eq_true this, decide_eq_true (show m - 1 < m by omega)]
        rfl
      rw [hb]
      have es : sextW x (m : Int) = ob (fun i => x.testBit (if i < m then i else m - 1)) 64 := by
        unfold sextW
        rw [if_neg h0, if_neg h1, Int.toNat_natCast]
      rw [es]
      by_cases hs : x.testBit (m - 1) = true
      · rw [if_pos hs, not_nat _ hm, or_nat _ _ hlt (by omega)]
        congr 2
        apply eq64 (or_lt hlt (by omega)) (ob64_lt _)
        intro i hi
        rw [Nat.testBit_or, tb_not _ _ hm, tb_mask, testBit_ob, hc, Nat.testBit_mod_two_pow]
        by_cases h : i < m
        · simp [h, hi]
        · simp [h, hi, hs]
      · rw [if_neg hs]
        congr 2
        apply eq64 hlt (ob64_lt _)
        intro i hi
        rw [testBit_ob, hc, Nat.testBit_mod_two_pow]
        by_cases h : i < m
        · simp [h, hi]
        · simp [h, hi]
          simpa using hs
theorem Bits_l (x : Nat) (hx : x < 18446744073709551616) (d : Nat) : ∀ (k i : Nat), i + d = 64 → d < k → vireoref01_Bits.l0 k ((x / 2 ^ i : Nat) : Int) (bl x.testBit i) (i : Int) = some (bl x.testBit 64) := by
  induction d with
  | zero =>
    intro k i hi hk
    obtain ⟨k, rfl⟩ : ∃ m, k = m + 1 := ⟨k - 1, by omega⟩
    obtain rfl : i = 64 := by omega
    simp only [vireoref01_Bits.l0]
    rw [if_neg (by omega)]
  | succ d ih =>
    intro k i hi hk
    obtain ⟨k, rfl⟩ : ∃ m, k = m + 1 := ⟨k - 1, by omega⟩
    simp only [vireoref01_Bits.l0]
    have hl : x / 2 ^ i ≤ x := Nat.div_le_self _ _
    rw [if_pos (by omega), if_pos (by rw [bl_length]; omega)]
    have e1 : IntKind.u64.wrap (Int.tdiv ((x / 2 ^ i : Nat) : Int) 2) = ((x / 2 ^ (i + 1) : Nat) : Int) := by
      rw [show (2 : Int) = ((2 : Nat) : Int) from rfl, tdiv_nat, u64_nat _ (by omega), div_next]
    have e2 : wrap64 (Int.tmod ((x / 2 ^ i : Nat) : Int) 2) = bi (x.testBit i) := by
      rw [show (2 : Int) = ((2 : Nat) : Int) from rfl, tmod_nat, w64_id _ (by omega) (by omega), bit_at]
    have e3 : wrap64 ((i : Int) + 1) = ((i + 1 : Nat) : Int) := by rw [w64_id _ (by omega) (by omega)]; rfl
    rw [e1, e2, e3, ← bl_succ]
    exact ih k (i + 1) (by omega) (by omega)
theorem vireoref01_Bits_is (x : Nat) (hx : x < 18446744073709551616) (k : Nat) (hk : 65 ≤ k) : vireoref01_Bits.f k (x : Int) = some (bl x.testBit 64) := by
  unfold vireoref01_Bits.f
  have h := Bits_l x hx 64 k 0 (by omega) (by omega)
  simpa [bl_zero] using h
theorem Word_l (f : Nat → Bool) (n : Nat) (hn : n ≤ 64) (j : Nat) : ∀ (k : Nat), j ≤ n → j < k → vireoref01_Word.l0 k (bl f n) ((ob f n / 2 ^ j : Nat) : Int) ((j : Int) - 1) = some ((ob f n : Nat) : Int) := by
  have hX : ob f n < 18446744073709551616 := by
    have h1 := ob_lt f n
    have h2 : 2 ^ n ≤ 2 ^ 64 := Nat.pow_le_pow_right (by decide) hn
    rw [two64] at h2; omega
  induction j with
  | zero =>
    intro k _ hk
    obtain ⟨k, rfl⟩ : ∃ m, k = m + 1 := ⟨k - 1, by omega⟩
    simp only [vireoref01_Word.l0]
    rw [if_neg (by omega), Nat.pow_zero, Nat.div_one]
  | succ j ih =>
    intro k hj hk
    obtain ⟨k, rfl⟩ : ∃ m, k = m + 1 := ⟨k - 1, by omega⟩
    simp only [vireoref01_Word.l0]
    have ej : (((j + 1 : Nat) : Int) - 1) = (j : Int) := by omega
    rw [ej, if_pos (by omega), if_pos (by omega), if_pos (by rw [bl_length]; omega), rd_bl f n j (by omega)]
    have hb : bi (f j) = ((ob f n / 2 ^ j % 2 : Nat) : Int) := by
      rw [bit_at, testBit_ob]; simp [show j < n by omega]
    have hs := div_step (ob f n) j
    have hl : ob f n / 2 ^ j ≤ ob f n := Nat.div_le_self _ _
    have e1 : IntKind.u64.wrap (IntKind.u64.wrap (((ob f n / 2 ^ (j + 1) : Nat) : Int) * 2) + IntKind.u64.wrap (bi (f j))) = ((ob f n / 2 ^ j : Nat) : Int) := by
      rw [hb, u64_id (((ob f n / 2 ^ (j + 1) : Nat) : Int) * 2) (by omega) (by omega), u64_nat _ (by omega), u64_id _ (by omega) (by omega)]
      omega
    have e2 : wrap64 ((j : Int) - 1) = (j : Int) - 1 := w64_id _ (by omega) (by omega)
    rw [e1, e2]
    exact ih k (by omega) (by omega)
theorem vireoref01_Word_is (f : Nat → Bool) (n : Nat) (hn : n ≤ 64) (k : Nat) (hk : 65 ≤ k) : vireoref01_Word.f k (bl f n) = some ((ob f n : Nat) : Int) := by
  unfold vireoref01_Word.f
  have e : (mn ((bl f n).length : Int) 64) - 1 = (n : Int) - 1 := by
    rw [bl_length]; unfold mn; split <;> omega
  have h := Word_l f n hn n k (Nat.le_refl _) (by omega)
  rw [Nat.div_eq_of_lt (ob_lt f n)] at h
  rw [e]
  exact h
theorem ref_Get_end (x : Nat) (hx : x < 18446744073709551616) (a : Nat) (ha : a ≤ 63) (n : Int) (i k : Nat) (hi : i ≤ 64) (hk : 65 ≤ k) (he : i = cnt n ∨ i ≤ cnt n ∧ a + i = 64) :
    ((vireoref01_Word.f k (bl (fun j => x.testBit (a + j)) i)).bind fun t => some t) = some ((getW x (a : Int) n : Nat) : Int) := by
  rw [vireoref01_Word_is _ i hi k hk]
  simp only [Option.bind_some]
  congr 2
  apply eq_of_bits (n := 64) (by have := ob_lt (fun j => x.testBit (a + j)) i; have h2 : 2 ^ i ≤ 2 ^ 64 := Nat.pow_le_pow_right (by decide) hi; omega) (by have := getW_lt hx (a : Int) n; rw [two64]; exact this)
  intro j hj
  rw [testBit_ob, tb_getW, Int.toNat_natCast]
  have h1 : 0 ≤ (a : Int) ∧ (a : Int) ≤ 63 := by omega
  simp only [h1, and_self, decide_true, Bool.true_and]
  rcases he with rfl | ⟨h2, h3⟩
  · rfl
  · by_cases h4 : j < i
    · have : j < cnt n := by omega
      simp [h4, this]
    · have h5 : x < 2 ^ (a + j) := Nat.lt_of_lt_of_le hx (by rw [← two64]; exact Nat.pow_le_pow_right (by decide) (by omega))
      simp [h4, Nat.testBit_lt_two_pow h5]
theorem ref_Get_l (x : Nat) (hx : x < 18446744073709551616) (a : Nat) (ha : a ≤ 63) (n : Int) (d : Nat) : ∀ (k i : Nat), i + d = 64 → i ≤ cnt n → a + i ≤ 64 → d + 66 ≤ k →
    vireoref01_Get.l0 k (a : Int) n (bl x.testBit 64) (bl (fun j => x.testBit (a + j)) i) (i : Int) = some ((getW x (a : Int) n : Nat) : Int) := by
  have hc := cnt_le n
  induction d with
  | zero =>
    intro k i hi h1 h2 hk
    obtain ⟨k, rfl⟩ : ∃ m, k = m + 1 := ⟨k - 1, by omega⟩
    simp only [vireoref01_Get.l0]
    rw [if_neg (by rw [mn64]; omega)]
    exact ref_Get_end x hx a ha n i k (by omega) (by omega) (by omega)
  | succ d ih =>
    intro k i hi h1 h2 hk
    obtain ⟨k, rfl⟩ : ∃ m, k = m + 1 := ⟨k - 1, by omega⟩
    simp only [vireoref01_Get.l0]
    by_cases h3 : i < cnt n
    · have e1 : wrap64 ((a : Int) + (i : Int)) = ((a + i : Nat) : Int) := w64_nat (a + i) (by omega)
      rw [if_pos (by rw [mn64]; omega), e1]
      by_cases h4 : a + i < 64
      · have e3 : wrap64 ((i : Int) + 1) = ((i + 1 : Nat) : Int) := w64_nat (i + 1) (by omega)
        rw [if_pos (by omega), if_pos (by omega), if_pos (by rw [bl_length]; omega), if_pos (by rw [bl_length]; omega), e3, rd_bl _ 64 (a + i) h4]
        rw [show bl (fun j => x.testBit (a + j)) i ++ [bi (x.testBit (a + i))] = bl (fun j => x.testBit (a + j)) (i + 1) from (bl_succ _ _).symm]
        exact ih k (i + 1) (by omega) (by omega) (by omega) (by omega)
      · rw [if_neg (by omega)]
        exact ref_Get_end x hx a ha n i k (by omega) (by omega) (by omega)
    · rw [if_neg (by rw [mn64]; omega)]
      exact ref_Get_end x hx a ha n i k (by omega) (by omega) (by omega)
theorem vireoref01_Get_is (x : Nat) (hx : x < 18446744073709551616) (at_ n : Int) (k : Nat) (hk : 140 ≤ k) : vireoref01_Get.f k (x : Int) at_ n = some ((getW x at_ n : Nat) : Int) := by
  obtain ⟨k, rfl⟩ : ∃ m, k = m + 1 := ⟨k - 1, by omega⟩
  unfold vireoref01_Get.f
  by_cases h0 : at_ < 0
  · rw [if_pos h0]
    simp only [vireoref01_Get.j0, if_true]
    unfold getW; rw [if_neg (by omega)]; rfl
  · rw [if_neg h0]
    by_cases h1 : at_ > 63
    · simp only [vireoref01_Get.j0, h1, decide_true, if_true]
      unfold getW; rw [if_neg (by omega)]; rfl
    · simp only [vireoref01_Get.j0, h1, decide_false, Bool.false_eq_true, if_false]
      rw [vireoref01_Bits_is x hx k (by omega)]
      simp only [Option.bind_some]
      obtain ⟨a, rfl⟩ := Int.eq_ofNat_of_zero_le (a := at_) (by omega)
      exact ref_Get_l x hx a (by omega) n 64 k 0 (by omega) (by omega) (by omega) (by omega)
/-- A word as a number with its sign. -/
def sI (a : Nat) : Int := if 9223372036854775808 ≤ a then (a : Int) - 18446744073709551616 else a
theorem wrap64_sI (a : Nat) (ha : a < 18446744073709551616) : wrap64 (a : Int) = sI a := by unfold wrap64 sI; split <;> omega
theorem pow_split (n w : Nat) (h : n ≤ w) : 2 ^ n * 2 ^ (w - n) = 2 ^ w := by rw [← Nat.pow_add]; congr 1; omega
theorem eqw {x y w : Nat} (hw : w ≤ 64) (hx : x < 2 ^ w) (hy : y < 2 ^ w) (h : ∀ i, i < w → x.testBit i = y.testBit i) : x = y := eq_of_bits hx hy h
/-- To the right, the sign above. -/
def sarW (a n w : Nat) : Nat := if a.testBit (w - 1) then a % 2 ^ w / 2 ^ n + (2 ^ w - 2 ^ (w - n)) else a % 2 ^ w / 2 ^ n
theorem shr_lt (a n w : Nat) (hn : n ≤ w) : a % 2 ^ w / 2 ^ n < 2 ^ (w - n) := by
  rw [Nat.div_lt_iff_lt_mul (Nat.two_pow_pos n), Nat.mul_comm, pow_split n w hn]
  exact Nat.mod_lt _ (Nat.two_pow_pos w)
theorem sarW_lt (a n w : Nat) (hn : n ≤ w) : sarW a n w < 2 ^ w := by
  have h1 := shr_lt a n w hn
  have h2 : 2 ^ (w - n) ≤ 2 ^ w := Nat.pow_le_pow_right (by decide) (by omega)
  unfold sarW
  split <;> omega
theorem tb_sarW (a n w i : Nat) (hn : n < w) (hi : i < w) : (sarW a n w).testBit i = a.testBit (if i + n < w then i + n else w - 1) := by
  have h1 := shr_lt a n w (by omega)
  unfold sarW
  by_cases hs : a.testBit (w - 1) = true
  · rw [if_pos hs]
    have e : a % 2 ^ w / 2 ^ n + (2 ^ w - 2 ^ (w - n)) = 2 ^ (w - n) * (2 ^ n - 1) + a % 2 ^ w / 2 ^ n := by
      rw [Nat.mul_sub, Nat.mul_one, Nat.mul_comm (2 ^ (w - n)), pow_split n w (by omega)]
      omega
    rw [e, Nat.testBit_two_pow_mul_add _ h1]
    by_cases c : i + n < w
    · rw [if_pos c, if_pos (by omega), tb_shr, Nat.testBit_mod_two_pow, Nat.add_comm n i, decide_eq_true c, Bool.true_and]
    · rw [if_neg c, if_neg (by omega), Nat.testBit_two_pow_sub_one, hs]
      exact decide_eq_true (by omega)
  · rw [if_neg hs, tb_shr, Nat.testBit_mod_two_pow, Nat.add_comm n i]
    by_cases c : i + n < w
    · rw [if_pos c, decide_eq_true c, Bool.true_and]
    · rw [if_neg c, decide_eq_false c, Bool.false_and]
      simpa using hs
theorem within_word (a n b m : Nat) (ha : a < 18446744073709551616) (hn : n < 18446744073709551616) (hb : b < 18446744073709551616) (hm : m < 18446744073709551616) : word_Within.f (a : Int) (n : Int) (b : Int) (m : Int) = some (decide (b ≤ a ∧ a + n ≤ b + m)) := by
  unfold word_Within.f
  by_cases c1 : (a : Int) < b
  · rw [if_pos c1]; exact congrArg some (decide_eq_false (by omega)).symm
  · rw [if_neg c1]
    by_cases c2 : (n : Int) > m
    · rw [if_pos c2]; exact congrArg some (decide_eq_false (by omega)).symm
    · rw [if_neg c2, u64_id _ (by omega) (by omega), u64_id _ (by omega) (by omega)]
      exact congrArg some (decide_eq_decide.mpr (by omega))
theorem orb (w n : Nat) (hw : w < 18446744073709551616) (hn : n < 64) : Go.bits .or .u64 (w : Int) (shl .u64 1 (n : Int)) = ((ob (fun j => if j = n then true else w.testBit j) 64 : Nat) : Int) := by
  have hp : 2 ^ n < 2 ^ 64 := Nat.pow_lt_pow_right (by decide) hn
  rw [two64] at hp
  have hs : shl .u64 1 (n : Int) = ((2 ^ n : Nat) : Int) := by
    have e := shl_nat 1 n (by omega)
    rw [Nat.one_mul, Nat.mod_eq_of_lt hp] at e
    exact e
  rw [hs, or_nat _ _ hw hp]
  congr 1
  apply eq64 (or_lt hw hp) (ob64_lt _)
  intro i hi
  rw [Nat.testBit_or, testBit_ob, decide_eq_true hi, Bool.true_and, Nat.testBit_two_pow]
  by_cases c : i = n
  · subst c; simp
  · rw [if_neg c, decide_eq_false (fun h => c h.symm), Bool.or_false]
/-- The bits that a list names, of its first i. -/
def named (xs : List Int) (i : Nat) (j : Nat) : Bool := (xs.take i).any (fun x => x == (j : Int))
theorem named_next (xs : List Int) (i j : Nat) (hi : i < xs.length) : named xs (i + 1) j = (named xs i j || (xs[i] == (j : Int))) := by
  unfold named
  rw [List.take_succ_eq_append_getElem hi, List.any_append]
  simp
theorem rd_at (xs : List Int) (i : Nat) (hi : i < xs.length) : rd xs (i : Int) = xs[i] := by
  unfold rd
  rw [Int.toNat_natCast, List.getD_eq_getElem?_getD, List.getElem?_eq_getElem hi]; rfl
theorem word_Bits_l (xs : List Int) (hl : xs.length ≤ 100) (d : Nat) : ∀ (k i : Nat), i + d = xs.length → d < k → word_Bits.l0 k ((ob (named xs i) 64 : Nat) : Int) xs (xs.length : Int) (i : Int) = some ((ob (named xs xs.length) 64 : Nat) : Int) := by
  induction d with
  | zero =>
    intro k i hi hk
    obtain ⟨k, rfl⟩ : ∃ m, k = m + 1 := ⟨k - 1, by omega⟩
    obtain rfl : i = xs.length := by omega
    simp only [word_Bits.l0]
    rw [if_neg (by omega)]
  | succ d ih =>
    intro k i hi hk
    obtain ⟨k, rfl⟩ : ∃ m, k = m + 1 := ⟨k - 1, by omega⟩
    have hn := ih k (i + 1) (by omega) (by omega)
    have hi2 : i < xs.length := by omega
    have q3 : wrap64 ((i : Int) + 1) = ((i + 1 : Nat) : Int) := w64_nat (i + 1) (by omega)
    simp only [word_Bits.l0]
    rw [if_pos (by omega), if_pos (by omega), if_pos (by omega), q3, rd_at xs i hi2]
    have same : ¬ (0 ≤ xs[i] ∧ xs[i] < 64) → ob (named xs (i + 1)) 64 = ob (named xs i) 64 := by
      intro h
      apply ob_congr
      intro j hj
      rw [named_next xs i j hi2, beq_eq_false_iff_ne.mpr (by omega), Bool.or_false]
    by_cases c1 : xs[i] ≥ 0
    · rw [if_pos c1]
      by_cases c2 : xs[i] < 64
      · rw [if_pos c2, if_pos c1]
        obtain ⟨n, hn2⟩ := Int.eq_ofNat_of_zero_le (a := xs[i]) c1
        have hob : ob (fun j => if j = n then true else (ob (named xs i) 64).testBit j) 64 = ob (named xs (i + 1)) 64 := by
          apply ob_congr
          intro j hj
          rw [named_next xs i j hi2, hn2, testBit_ob, decide_eq_true hj, Bool.true_and]
          by_cases c : j = n
          · subst c; simp
          · rw [if_neg c, beq_eq_false_iff_ne.mpr (by omega), Bool.or_false]
        rw [hn2, orb _ n (ob64_lt _) (by omega), hob]
        exact hn
      · rw [if_neg c2, ← same (by omega)]
        exact hn
    · rw [if_neg c1, ← same (by omega)]
      exact hn
theorem word_Bits_is (xs : List Int) (hl : xs.length ≤ 100) (k : Nat) (hk : 102 ≤ k) : word_Bits.f k xs = some ((ob (named xs xs.length) 64 : Nat) : Int) := by
  unfold word_Bits.f
  have h := word_Bits_l xs hl xs.length k 0 (by omega) (by omega)
  have e : ob (named xs 0) 64 = 0 := by
    apply eq64 (ob64_lt _) (by decide)
    intro i hi
    rw [testBit_ob, decide_eq_true hi, Bool.true_and, Nat.zero_testBit]
    rfl
  rw [e] at h
  exact h
theorem rdB_at (xs : List Bool) (i : Nat) (hi : i < xs.length) : rdOf false xs (i : Int) = xs[i] := by
  unfold rdOf
  rw [Int.toNat_natCast, List.getD_eq_getElem?_getD, List.getElem?_eq_getElem hi]; rfl
theorem word_Any_l (xs : List Bool) (hl : xs.length ≤ 100) (d : Nat) : ∀ (k i : Nat), i + d = xs.length → d < k → word_Any.l0 k xs (xs.length : Int) (i : Int) = some ((xs.drop i).any id) := by
  induction d with
  | zero =>
    intro k i hi hk
    obtain ⟨k, rfl⟩ : ∃ m, k = m + 1 := ⟨k - 1, by omega⟩
    obtain rfl : i = xs.length := by omega
    simp only [word_Any.l0]
    rw [if_neg (by omega), List.drop_length]; rfl
  | succ d ih =>
    intro k i hi hk
    obtain ⟨k, rfl⟩ : ∃ m, k = m + 1 := ⟨k - 1, by omega⟩
    have hn := ih k (i + 1) (by omega) (by omega)
    have hi2 : i < xs.length := by omega
    have q3 : wrap64 ((i : Int) + 1) = ((i + 1 : Nat) : Int) := w64_nat (i + 1) (by omega)
    simp only [word_Any.l0]
    rw [if_pos (by omega), if_pos (by omega), if_pos (by omega), q3, rdB_at xs i hi2, hn, List.drop_eq_getElem_cons hi2]
    cases xs[i] <;> rfl
theorem word_Any_is (xs : List Bool) (hl : xs.length ≤ 100) (k : Nat) (hk : 102 ≤ k) : word_Any.f k xs = some (xs.any id) := by
  unfold word_Any.f
  exact word_Any_l xs hl xs.length k 0 (by omega) (by omega)
end Go.Proofs.Ytlhdildnekllhaa.Pure
