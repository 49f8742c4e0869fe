import Derived.Test.YtpodgoceheoogaaPFix1
import Derived.Test.YtpodgoceheoogaaPFix2
import Derived.Test.YtpodgoceheoogaaPFix3
import Derived.Test.YtpodgoceheoogaaPFix4
import Derived.Test.YtpodgoceheoogaaPFix5
import Derived.OpenShut
import Derived.Laws.BitsAllLaws
import Derived.Test.YtpodgoceheoogaaVw
namespace Go.Proofs.Ytpodgoceheoogaa.Pure
open Go.RowKit Go.Proofs.Ytpodgoceheoogaa.PFi Go.Proofs.YtpodgoceheoogaaW.PrintWords Go.Proofs.YtpodgoceheoogaaW.PrintLast
open Go.Proofs.Ytpodgoceheoogaa.Vw
set_option linter.unusedVariables false
set_option linter.unusedSimpArgs false

theorem u64_nat (n : Nat) (h : n < 18446744073709551616) : IntKind.u64.wrap (n : Int) = (n : Int) := by rw [IntKind.wrap_u64]; omega
theorem u64_id (n : Int) (h0 : 0 ≤ n) (h : n < 18446744073709551616) : IntKind.u64.wrap n = n := by rw [IntKind.wrap_u64]; omega
theorem w64_id (n : Int) (h0 : -9223372036854775808 ≤ n) (h : n < 9223372036854775808) : wrap64 n = n := by unfold wrap64; omega
theorem w64_nat (n : Nat) (h : n < 9223372036854775808) : wrap64 (n : Int) = (n : Int) := w64_id _ (by omega) (by omega)
theorem tdiv_nat (a b : Nat) : Int.tdiv (a : Int) (b : Int) = ((a / b : Nat) : Int) := by rw [Int.tdiv_eq_ediv_of_nonneg (by omega)]; simp
theorem tmod_nat (a b : Nat) : Int.tmod (a : Int) (b : Int) = ((a % b : Nat) : Int) := by rw [Int.tmod_eq_emod_of_nonneg (by omega)]; simp
theorem u64_of_wf {n : Int} (h : (Lit.int .u64 n).wf = true) : ∃ x : Nat, n = (x : Int) ∧ x < 18446744073709551616 := by
  have := bounds_u64 h
  exact ⟨n.toNat, by omega, by omega⟩
theorem i64_of_wf {n : Int} (h : (Lit.int .i64 n).wf = true) : -9223372036854775808 ≤ n ∧ n ≤ 9223372036854775807 := bounds_i64 h
theorem rd_bl (f : Nat → Bool) (n i : Nat) (h : i < n) : rd (bl f n) (i : Int) = bi (f i) := by
  unfold rd
  rw [Int.toNat_natCast]
  exact bl_get f n i h
theorem two64 : (2 : Nat) ^ 64 = 18446744073709551616 := by decide
theorem and_nat (a b : Nat) (ha : a < 18446744073709551616) (hb : b < 18446744073709551616) : Go.bits .and .u64 (a : Int) (b : Int) = ((a &&& b : Nat) : Int) := u64_and_nat a b ha hb
theorem or_nat (a b : Nat) (ha : a < 18446744073709551616) (hb : b < 18446744073709551616) : Go.bits .or .u64 (a : Int) (b : Int) = ((a ||| b : Nat) : Int) := u64_or_nat a b ha hb
theorem xor_nat (a b : Nat) (ha : a < 18446744073709551616) (hb : b < 18446744073709551616) : Go.bits .xor .u64 (a : Int) (b : Int) = ((a ^^^ b : Nat) : Int) := u64_xor_nat a b ha hb
theorem andNot_nat (a b : Nat) (ha : a < 18446744073709551616) (hb : b < 18446744073709551616) : Go.bits .andNot .u64 (a : Int) (b : Int) = ((a &&& (18446744073709551615 - b) : Nat) : Int) := u64_andNot_nat a b ha hb
theorem and_lt {a b : Nat} (ha : a < 18446744073709551616) : a &&& b < 18446744073709551616 := Nat.lt_of_le_of_lt Nat.and_le_left ha
theorem or_lt {a b : Nat} (ha : a < 18446744073709551616) (hb : b < 18446744073709551616) : a ||| b < 18446744073709551616 := by
  have := Nat.or_lt_two_pow (n := 64) (x := a) (y := b) (by rw [two64]; exact ha) (by rw [two64]; exact hb)
  rw [two64] at this; exact this
theorem xor_lt {a b : Nat} (ha : a < 18446744073709551616) (hb : b < 18446744073709551616) : a ^^^ b < 18446744073709551616 := by
  have := Nat.xor_lt_two_pow (n := 64) (x := a) (y := b) (by rw [two64]; exact ha) (by rw [two64]; exact hb)
  rw [two64] at this; exact this
theorem not_nat (b : Nat) (hb : b < 18446744073709551616) : Go.bits .xor .u64 18446744073709551615 (b : Int) = ((18446744073709551615 - b : Nat) : Int) := by
  have h := xor_nat 18446744073709551615 b (by omega) hb
  have e : (18446744073709551615 : Nat) ^^^ b = 18446744073709551615 - b := by
    apply Nat.eq_of_testBit_eq
    intro i
    rw [Nat.testBit_xor]
    have e1 : (18446744073709551615 : Nat) = 2 ^ 64 - 1 := by decide
    have e2 : (18446744073709551615 : Nat) - b = 2 ^ 64 - (b + 1) := by rw [two64]; omega
    rw [e2, Nat.testBit_two_pow_sub_succ (by rw [two64]; exact hb), e1, Nat.testBit_two_pow_sub_one]
    by_cases hi : i < 64
    · simp [hi]
    · have : b < 2 ^ i := Nat.lt_of_lt_of_le hb (by rw [← two64]; exact Nat.pow_le_pow_right (by decide) (by omega))
      simp [hi, Nat.testBit_lt_two_pow this]
  rw [e] at h
  exact h
theorem tb_not (b i : Nat) (hb : b < 18446744073709551616) : (18446744073709551615 - b).testBit i = (decide (i < 64) && !b.testBit i) := by
  have e2 : (18446744073709551615 : Nat) - b = 2 ^ 64 - (b + 1) := by rw [two64]; omega
  rw [e2, Nat.testBit_two_pow_sub_succ (by rw [two64]; exact hb)]
theorem eq64 {x y : Nat} (hx : x < 18446744073709551616) (hy : y < 18446744073709551616) (h : ∀ i, i < 64 → x.testBit i = y.testBit i) : x = y :=
  eq_of_bits (n := 64) (by rw [two64]; exact hx) (by rw [two64]; exact hy) h
theorem ob64 {x : Nat} (h : x < 18446744073709551616) : ob x.testBit 64 = x := ob_testBit (by rw [two64]; exact h)
theorem ob64_lt (f : Nat → Bool) : ob f 64 < 18446744073709551616 := by have := ob_lt f 64; rw [two64] at this; exact this
theorem shr_nat (x i : Nat) (hi : i ≤ 64) : shr .u64 (x : Int) (i : Int) = ((x / 2 ^ i : Nat) : Int) := by
  unfold shr
  rw [Int.toNat_natCast, Nat.min_eq_left (by simpa [IntKind.bits] using hi)]
  simp
theorem shl_nat (x i : Nat) (hi : i ≤ 64) : shl .u64 (x : Int) (i : Int) = ((x * 2 ^ i % 18446744073709551616 : Nat) : Int) := by
  unfold shl
  rw [Int.toNat_natCast, Nat.min_eq_left (by simpa [IntKind.bits] using hi), IntKind.wrap_u64]
  simp
theorem tb_shl (x s i : Nat) : (x * 2 ^ s % 18446744073709551616).testBit i = (decide (i < 64) && (decide (s ≤ i) && x.testBit (i - s))) := by
  rw [← two64, Nat.testBit_mod_two_pow, Nat.testBit_mul_two_pow]
theorem tb_shr (x s i : Nat) : (x / 2 ^ s).testBit i = x.testBit (s + i) := by
  rw [Nat.testBit_div_two_pow, Nat.add_comm]
/-- How many bits a number of bits asks for: at most 64. -/
def cnt (n : Int) : Nat := min n.toNat 64
theorem cnt_le (n : Int) : cnt n ≤ 64 := by unfold cnt; omega
theorem mn64 (n : Int) (i : Nat) : ((i : Int) < mn n 64) ↔ i < cnt n := by
  unfold mn cnt
  split <;> omega
def mask (n : Int) : Nat := 2 ^ cnt n - 1
theorem mask_lt (n : Int) : mask n < 18446744073709551616 := by
  unfold mask
  have h1 : 2 ^ cnt n ≤ 2 ^ 64 := Nat.pow_le_pow_right (by decide) (cnt_le n)
  have h2 : 0 < 2 ^ cnt n := Nat.two_pow_pos _
  rw [two64] at h1; omega
theorem tb_mask (n : Int) (i : Nat) : (mask n).testBit i = decide (i < cnt n) := by unfold mask; rw [Nat.testBit_two_pow_sub_one]
def getW (x : Nat) (at_ n : Int) : Nat := if 0 ≤ at_ ∧ at_ ≤ 63 then x / 2 ^ at_.toNat % 2 ^ cnt n else 0
theorem getW_lt {x : Nat} (h : x < 18446744073709551616) (at_ n : Int) : getW x at_ n < 18446744073709551616 := by
  unfold getW
  split
  · have h1 : x / 2 ^ at_.toNat % 2 ^ cnt n ≤ x / 2 ^ at_.toNat := Nat.mod_le _ _
    have h2 : x / 2 ^ at_.toNat ≤ x := Nat.div_le_self _ _
    omega
  · omega
theorem tb_getW (x : Nat) (at_ n : Int) (i : Nat) : (getW x at_ n).testBit i = (decide (0 ≤ at_ ∧ at_ ≤ 63) && (decide (i < cnt n) && x.testBit (at_.toNat + i))) := by
  unfold getW
  split
  · rename_i h
    rw [Nat.testBit_mod_two_pow, tb_shr]
    simp [h]
  · rename_i h
    simp [h]
def sextW (x : Nat) (n : Int) : Nat := if n ≤ 0 then 0 else if 64 ≤ n then x else ob (fun i => x.testBit (if i < n.toNat then i else n.toNat - 1)) 64
def putW (x : Nat) (at_ n : Int) (v : Nat) : Nat := if 0 ≤ at_ ∧ at_ ≤ 63 then ob (fun i => if at_.toNat ≤ i ∧ i < at_.toNat + cnt n then v.testBit (i - at_.toNat) else x.testBit i) 64 else x
theorem sextW_lt {x : Nat} (h : x < 18446744073709551616) (n : Int) : sextW x n < 18446744073709551616 := by
  unfold sextW
  split
  · omega
  · split
    · exact h
    · exact ob64_lt _
theorem putW_lt {x : Nat} (h : x < 18446744073709551616) (at_ n : Int) (v : Nat) : putW x at_ n v < 18446744073709551616 := by
  unfold putW
  split
  · exact ob64_lt _
  · exact h
theorem word_Mask_is (n : Int) : word_Mask.f n = some ((mask n : Nat) : Int) := by
  unfold word_Mask.f mask cnt
  by_cases h0 : n ≤ 0
  · rw [if_pos h0, show n.toNat = 0 by omega]; rfl
  · rw [if_neg h0]
    by_cases h1 : n ≥ 64
    · rw [if_pos h1, show min n.toNat 64 = 64 by omega]; rfl
    · rw [if_neg h1, if_pos (by omega)]
      obtain ⟨m, rfl⟩ := Int.eq_ofNat_of_zero_le (a := n) (by omega)
      have hm : m < 64 := by omega
      have e := shl_nat 1 m (by omega)
      have hp : 2 ^ m < 2 ^ 64 := Nat.pow_lt_pow_right (by decide) hm
      have hp0 : 0 < 2 ^ m := Nat.two_pow_pos _
      rw [two64] at hp
      rw [show ((1 : Int)) = ((1 : Nat) : Int) from rfl, e, Int.toNat_natCast, Nat.one_mul, Nat.mod_eq_of_lt hp, Nat.min_eq_left (by omega), u64_id _ (by omega) (by omega)]
      congr 1
      omega
theorem word_Get_is (x : Nat) (at_ n : Int) (hx : x < 18446744073709551616) : word_Get.f (x : Int) at_ n = some ((getW x at_ n : Nat) : Int) := by
  unfold word_Get.f
  by_cases h0 : at_ < 0
  · rw [if_pos h0]; unfold getW; rw [if_neg (by omega)]; rfl
  · rw [if_neg h0]
    by_cases h1 : at_ > 63
    · rw [if_pos h1]; unfold getW; rw [if_neg (by omega)]; rfl
    · rw [if_neg h1, if_pos (by omega), word_Mask_is]
      simp only [Option.bind_some]
      obtain ⟨a, rfl⟩ := Int.eq_ofNat_of_zero_le (a := at_) (by omega)
      rw [shr_nat x a (by omega), and_nat _ _ (Nat.lt_of_le_of_lt (Nat.div_le_self _ _) hx) (mask_lt n)]
      unfold getW mask
      rw [if_pos (by omega), Nat.and_two_pow_sub_one_eq_mod, Int.toNat_natCast]
theorem getW_one (x : Nat) (at_ : Int) : getW x at_ 1 = if (decide (0 ≤ at_ ∧ at_ ≤ 63) && x.testBit at_.toNat) = true then 1 else 0 := by
  unfold getW
  by_cases h : 0 ≤ at_ ∧ at_ ≤ 63
  · rw [if_pos h, show cnt 1 = 1 from rfl]
    have := bit_at x at_.toNat
    have h2 := Nat.mod_two_eq_zero_or_one (x / 2 ^ at_.toNat)
    simp only [Nat.pow_one]
    rw [Nat.testBit_eq_decide_div_mod_eq]
    rcases h2 with e | e <;> simp [h, e]
  · rw [if_neg h]; simp [h]
theorem word_Bit_is (x : Nat) (at_ : Int) (hx : x < 18446744073709551616) : word_Bit.f (x : Int) at_ = some (decide (0 ≤ at_ ∧ at_ ≤ 63) && x.testBit at_.toNat) := by
  unfold word_Bit.f
  rw [word_Get_is x at_ 1 hx, getW_one]
  simp only [Option.bind_some]
  split <;> rename_i h
  · rw [h]; rfl
  · rw [Bool.not_eq_true] at h; rw [h]; rfl
theorem word_Put_is (x : Nat) (at_ n : Int) (v : Nat) (hx : x < 18446744073709551616) (hv : v < 18446744073709551616) : word_Put.f (x : Int) at_ n (v : Int) = some ((putW x at_ n v : Nat) : Int) := by
  unfold word_Put.f putW
  by_cases h0 : at_ < 0
  · rw [if_pos h0, if_neg (by omega)]
  · rw [if_neg h0]
    by_cases h1 : at_ > 63
    · rw [if_pos h1, if_neg (by omega)]
    · rw [if_neg h1, word_Mask_is]
      simp only [Option.bind_some]
      rw [if_pos (by omega), if_pos (by omega)]
      obtain ⟨a, rfl⟩ := Int.eq_ofNat_of_zero_le (a := at_) (by omega)
      have hM : mask n * 2 ^ a % 18446744073709551616 < 18446744073709551616 := Nat.mod_lt _ (by decide)
      have hV : v * 2 ^ a % 18446744073709551616 < 18446744073709551616 := Nat.mod_lt _ (by decide)
      rw [shl_nat _ a (by omega), shl_nat _ a (by omega), andNot_nat _ _ hx hM, and_nat _ _ hV hM, or_nat _ _ (and_lt hx) (and_lt hV)]
      congr 2
      apply eq64 (or_lt (and_lt hx) (and_lt hV)) (ob64_lt _)
      intro i hi
      rw [Nat.testBit_or, Nat.testBit_and, Nat.testBit_and, tb_not _ _ hM, tb_shl, tb_shl, testBit_ob, tb_mask, Int.toNat_natCast]
      by_cases h2 : a ≤ i
      · by_cases h3 : i - a < cnt n
        · have h4 : i < a + cnt n := by omega
          simp [hi, h2, h3, h4]
        · have h4 : ¬ i < a + cnt n := by omega
          simp [hi, h2, h3, h4]
      · simp [hi, h2]
theorem Bits_l (x : Nat) (hx : x < 18446744073709551616) (d : Nat) : ∀ (k i : Nat), i + d = 64 → d < k → vireoref01_Bits.l0 k ((x / 2 ^ i : Nat) : Int) (bl x.testBit i) (i : Int) = some (bl x.testBit 64) := by
  induction d with
  | zero =>
    intro k i hi hk
    obtain ⟨k, rfl⟩ : ∃ m, k = m + 1 := ⟨k - 1, by omega⟩
    obtain rfl : i = 64 := by omega
    simp only [vireoref01_Bits.l0]
    rw [if_neg (by omega)]
  | succ d ih =>
    intro k i hi hk
    obtain ⟨k, rfl⟩ : ∃ m, k = m + 1 := ⟨k - 1, by omega⟩
    simp only [vireoref01_Bits.l0]
    have hl : x / 2 ^ i ≤ x := Nat.div_le_self _ _
    rw [if_pos (by omega), if_pos (by rw [bl_length]; omega)]
    have e1 : IntKind.u64.wrap (Int.tdiv ((x / 2 ^ i : Nat) : Int) 2) = ((x / 2 ^ (i + 1) : Nat) : Int) := by
      rw [show (2 : Int) = ((2 : Nat) : Int) from rfl, tdiv_nat, u64_nat _ (by omega), div_next]
    have e2 : wrap64 (Int.tmod ((x / 2 ^ i : Nat) : Int) 2) = bi (x.testBit i) := by
      rw [show (2 : Int) = ((2 : Nat) : Int) from rfl, tmod_nat, w64_id _ (by omega) (by omega), bit_at]
    have e3 : wrap64 ((i : Int) + 1) = ((i + 1 : Nat) : Int) := by rw [w64_id _ (by omega) (by omega)]; rfl
    rw [e1, e2, e3, ← bl_succ]
    exact ih k (i + 1) (by omega) (by omega)
theorem vireoref01_Bits_is (x : Nat) (hx : x < 18446744073709551616) (k : Nat) (hk : 65 ≤ k) : vireoref01_Bits.f k (x : Int) = some (bl x.testBit 64) := by
  unfold vireoref01_Bits.f
  have h := Bits_l x hx 64 k 0 (by omega) (by omega)
  simpa [bl_zero] using h
theorem Word_l (f : Nat → Bool) (n : Nat) (hn : n ≤ 64) (j : Nat) : ∀ (k : Nat), j ≤ n → j < k → vireoref01_Word.l0 k (bl f n) ((ob f n / 2 ^ j : Nat) : Int) ((j : Int) - 1) = some ((ob f n : Nat) : Int) := by
  have hX : ob f n < 18446744073709551616 := by
    have h1 := ob_lt f n
    have h2 : 2 ^ n ≤ 2 ^ 64 := Nat.pow_le_pow_right (by decide) hn
    rw [two64] at h2; omega
  induction j with
  | zero =>
    intro k _ hk
    obtain ⟨k, rfl⟩ : ∃ m, k = m + 1 := ⟨k - 1, by omega⟩
    simp only [vireoref01_Word.l0]
    rw [if_neg (by omega), Nat.pow_zero, Nat.div_one]
  | succ j ih =>
    intro k hj hk
    obtain ⟨k, rfl⟩ : ∃ m, k = m + 1 := ⟨k - 1, by omega⟩
    simp only [vireoref01_Word.l0]
    have ej : (((j + 1 : Nat) : Int) - 1) = (j : Int) := by omega
    rw [ej, if_pos (by omega), if_pos (by omega), if_pos (by rw [bl_length]; omega), rd_bl f n j (by omega)]
    have hb : bi (f j) = ((ob f n / 2 ^ j % 2 : Nat) : Int) := by
      rw [bit_at, testBit_ob]; simp [show j < n by omega]
    have hs := div_step (ob f n) j
    have hl : ob f n / 2 ^ j ≤ ob f n := Nat.div_le_self _ _
    have e1 : IntKind.u64.wrap (IntKind.u64.wrap (((ob f n / 2 ^ (j + 1) : Nat) : Int) * 2) + IntKind.u64.wrap (bi (f j))) = ((ob f n / 2 ^ j : Nat) : Int) := by
      rw [hb, u64_id (((ob f n / 2 ^ (j + 1) : Nat) : Int) * 2) (by omega) (by omega), u64_nat _ (by omega), u64_id _ (by omega) (by omega)]
      omega
    have e2 : wrap64 ((j : Int) - 1) = (j : Int) - 1 := w64_id _ (by omega) (by omega)
    rw [e1, e2]
    exact ih k (by omega) (by omega)
theorem vireoref01_Word_is (f : Nat → Bool) (n : Nat) (hn : n ≤ 64) (k : Nat) (hk : 65 ≤ k) : vireoref01_Word.f k (bl f n) = some ((ob f n : Nat) : Int) := by
  unfold vireoref01_Word.f
  have e : (mn ((bl f n).length : Int) 64) - 1 = (n : Int) - 1 := by
    rw [bl_length]; unfold mn; split <;> omega
  have h := Word_l f n hn n k (Nat.le_refl _) (by omega)
  rw [Nat.div_eq_of_lt (ob_lt f n)] at h
  rw [e]
  exact h
theorem ref_Get_end (x : Nat) (hx : x < 18446744073709551616) (a : Nat) (ha : a ≤ 63) (n : Int) (i k : Nat) (hi : i ≤ 64) (hk : 65 ≤ k) (he : i = cnt n ∨ i ≤ cnt n ∧ a + i = 64) :
    ((vireoref01_Word.f k (bl (fun j => x.testBit (a + j)) i)).bind fun t => some t) = some ((getW x (a : Int) n : Nat) : Int) := by
  rw [vireoref01_Word_is _ i hi k hk]
  simp only [Option.bind_some]
  congr 2
  apply eq_of_bits (n := 64) (by have := ob_lt (fun j => x.testBit (a + j)) i; have h2 : 2 ^ i ≤ 2 ^ 64 := Nat.pow_le_pow_right (by decide) hi; omega) (by have := getW_lt hx (a : Int) n; rw [two64]; exact this)
  intro j hj
  rw [testBit_ob, tb_getW, Int.toNat_natCast]
  have h1 : 0 ≤ (a : Int) ∧ (a : Int) ≤ 63 := by omega
  simp only [h1, and_self, decide_true, Bool.true_and]
  rcases he with rfl | ⟨h2, h3⟩
  · rfl
  · by_cases h4 : j < i
    · have : j < cnt n := by omega
      simp [h4, this]
    · have h5 : x < 2 ^ (a + j) := Nat.lt_of_lt_of_le hx (by rw [← two64]; exact Nat.pow_le_pow_right (by decide) (by omega))
      simp [h4, Nat.testBit_lt_two_pow h5]
theorem ref_Get_l (x : Nat) (hx : x < 18446744073709551616) (a : Nat) (ha : a ≤ 63) (n : Int) (d : Nat) : ∀ (k i : Nat), i + d = 64 → i ≤ cnt n → a + i ≤ 64 → d + 66 ≤ k →
    vireoref01_Get.l0 k (a : Int) n (bl x.testBit 64) (bl (fun j => x.testBit (a + j)) i) (i : Int) = some ((getW x (a : Int) n : Nat) : Int) := by
  have hc := cnt_le n
  induction d with
  | zero =>
    intro k i hi h1 h2 hk
    obtain ⟨k, rfl⟩ : ∃ m, k = m + 1 := ⟨k - 1, by omega⟩
    simp only [vireoref01_Get.l0]
    rw [if_neg (by rw [mn64]; omega)]
    exact ref_Get_end x hx a ha n i k (by omega) (by omega) (by omega)
  | succ d ih =>
    intro k i hi h1 h2 hk
    obtain ⟨k, rfl⟩ : ∃ m, k = m + 1 := ⟨k - 1, by omega⟩
    simp only [vireoref01_Get.l0]
    by_cases h3 : i < cnt n
    · have e1 : wrap64 ((a : Int) + (i : Int)) = ((a + i : Nat) : Int) := w64_nat (a + i) (by omega)
      rw [if_pos (by rw [mn64]; omega), e1]
      by_cases h4 : a + i < 64
      · have e3 : wrap64 ((i : Int) + 1) = ((i + 1 : Nat) : Int) := w64_nat (i + 1) (by omega)
        rw [if_pos (by omega), if_pos (by omega), if_pos (by rw [bl_length]; omega), if_pos (by rw [bl_length]; omega), e3, rd_bl _ 64 (a + i) h4]
        rw [show bl (fun j => x.testBit (a + j)) i ++ [bi (x.testBit (a + i))] = bl (fun j => x.testBit (a + j)) (i + 1) from (bl_succ _ _).symm]
        exact ih k (i + 1) (by omega) (by omega) (by omega) (by omega)
      · rw [if_neg (by omega)]
        exact ref_Get_end x hx a ha n i k (by omega) (by omega) (by omega)
    · rw [if_neg (by rw [mn64]; omega)]
      exact ref_Get_end x hx a ha n i k (by omega) (by omega) (by omega)
theorem vireoref01_Get_is (x : Nat) (hx : x < 18446744073709551616) (at_ n : Int) (k : Nat) (hk : 140 ≤ k) : vireoref01_Get.f k (x : Int) at_ n = some ((getW x at_ n : Nat) : Int) := by
  obtain ⟨k, rfl⟩ : ∃ m, k = m + 1 := ⟨k - 1, by omega⟩
  unfold vireoref01_Get.f
  by_cases h0 : at_ < 0
  · rw [if_pos h0]
    simp only [vireoref01_Get.j0, if_true]
    unfold getW; rw [if_neg (by omega)]; rfl
  · rw [if_neg h0]
    by_cases h1 : at_ > 63
    · simp only [vireoref01_Get.j0, h1, decide_true, if_true]
      unfold getW; rw [if_neg (by omega)]; rfl
    · simp only [vireoref01_Get.j0, h1, decide_false, Bool.false_eq_true, if_false]
      rw [vireoref01_Bits_is x hx k (by omega)]
      simp only [Option.bind_some]
      obtain ⟨a, rfl⟩ := Int.eq_ofNat_of_zero_le (a := at_) (by omega)
      exact ref_Get_l x hx a (by omega) n 64 k 0 (by omega) (by omega) (by omega) (by omega)
theorem ref_Put_end (x v a : Nat) (ha : a ≤ 63) (n : Int) (i k : Nat) (hk : 65 ≤ k) (he : i = cnt n ∨ i ≤ cnt n ∧ a + i = 64) :
    ((vireoref01_Word.f k (bl (fun j => if a ≤ j ∧ j < a + i then v.testBit (j - a) else x.testBit j) 64)).bind fun t => some t) = some ((putW x (a : Int) n v : Nat) : Int) := by
  rw [vireoref01_Word_is _ 64 (by omega) k hk]
  simp only [Option.bind_some]
  unfold putW
  rw [if_pos (by omega), Int.toNat_natCast]
  congr 2
  apply ob_congr
  intro j hj
  rcases he with rfl | ⟨h2, h3⟩
  · rfl
  · by_cases h4 : a ≤ j
    · rw [if_pos (by omega), if_pos (by omega)]
    · rw [if_neg (by omega), if_neg (by omega)]
theorem ref_Put_l (x v : Nat) (a : Nat) (ha : a ≤ 63) (n : Int) (d : Nat) : ∀ (k i : Nat), i + d = 64 → i ≤ cnt n → a + i ≤ 64 → d + 66 ≤ k →
    vireoref01_Put.l0 k (a : Int) n (bl (fun j => if a ≤ j ∧ j < a + i then v.testBit (j - a) else x.testBit j) 64) (bl v.testBit 64) (i : Int) = some ((putW x (a : Int) n v : Nat) : Int) := by
  have hc := cnt_le n
  induction d with
  | zero =>
    intro k i hi h1 h2 hk
    obtain ⟨k, rfl⟩ : ∃ m, k = m + 1 := ⟨k - 1, by omega⟩
    simp only [vireoref01_Put.l0]
    rw [if_neg (by rw [mn64]; omega)]
    exact ref_Put_end x v a ha n i k (by omega) (by omega)
  | succ d ih =>
    intro k i hi h1 h2 hk
    obtain ⟨k, rfl⟩ : ∃ m, k = m + 1 := ⟨k - 1, by omega⟩
    simp only [vireoref01_Put.l0]
    by_cases h3 : i < cnt n
    · have e1 : wrap64 ((a : Int) + (i : Int)) = ((a + i : Nat) : Int) := w64_nat (a + i) (by omega)
      rw [if_pos (by rw [mn64]; omega), e1]
      by_cases h4 : a + i < 64
      · have e3 : wrap64 ((i : Int) + 1) = ((i + 1 : Nat) : Int) := w64_nat (i + 1) (by omega)
        rw [if_pos (by omega), if_pos (by omega), if_pos (by rw [bl_length]; omega), if_pos (by omega), if_pos (by rw [bl_length]; omega), e3, rd_bl _ 64 i (by omega), Int.toNat_natCast, bl_set]
        have e4 : (fun j => if j = a + i then v.testBit i else if a ≤ j ∧ j < a + i then v.testBit (j - a) else x.testBit j) = (fun j => if a ≤ j ∧ j < a + (i + 1) then v.testBit (j - a) else x.testBit j) := by
          funext j
          by_cases h5 : j = a + i
          · rw [if_pos h5, if_pos (by omega)]; congr 1; omega
          · rw [if_neg h5]
            by_cases h6 : a ≤ j ∧ j < a + i
            · rw [if_pos h6, if_pos (by omega)]
            · rw [if_neg h6, if_neg (by omega)]
        rw [e4]
        exact ih k (i + 1) (by omega) (by omega) (by omega) (by omega)
      · rw [if_neg (by omega)]
        exact ref_Put_end x v a ha n i k (by omega) (by omega)
    · rw [if_neg (by rw [mn64]; omega)]
      exact ref_Put_end x v a ha n i k (by omega) (by omega)
theorem vireoref01_Put_is (x : Nat) (hx : x < 18446744073709551616) (at_ n : Int) (v : Nat) (hv : v < 18446744073709551616) (k : Nat) (hk : 140 ≤ k) : vireoref01_Put.f k (x : Int) at_ n (v : Int) = some ((putW x at_ n v : Nat) : Int) := by
  obtain ⟨k, rfl⟩ : ∃ m, k = m + 1 := ⟨k - 1, by omega⟩
  unfold vireoref01_Put.f
  by_cases h0 : at_ < 0
  · rw [if_pos h0]
    simp only [vireoref01_Put.j0, if_true]
    unfold putW; rw [if_neg (by omega)]
  · rw [if_neg h0]
    by_cases h1 : at_ > 63
    · simp only [vireoref01_Put.j0, h1, decide_true, if_true]
      unfold putW; rw [if_neg (by omega)]
    · simp only [vireoref01_Put.j0, h1, decide_false, Bool.false_eq_true, if_false]
      rw [vireoref01_Bits_is x hx k (by omega)]
      simp only [Option.bind_some]
      rw [vireoref01_Bits_is v hv k (by omega)]
      simp only [Option.bind_some]
      obtain ⟨a, rfl⟩ := Int.eq_ofNat_of_zero_le (a := at_) (by omega)
      have h := ref_Put_l x v a (by omega) n 64 k 0 (by omega) (by omega) (by omega) (by omega)
      rw [show (fun j => if a ≤ j ∧ j < a + 0 then v.testBit (j - a) else x.testBit j) = x.testBit from by funext j; rw [if_neg (by omega)]] at h
      exact h
theorem ref_less_is (a b c d : Nat) (ha : a < 18446744073709551616) (hb : b < 18446744073709551616) (hc : c < 18446744073709551616) (hd : d < 18446744073709551616) (alike : Bool) :
    vireoref01_less.f (a : Int) (b : Int) (c : Int) (d : Int) alike = some (decide (a + b < c + d ∨ (alike = true ∧ a + b = c + d))) := by
  unfold vireoref01_less.f vireoref01_sum.f
  simp only [Option.bind_some, IntKind.wrap_u64]
  have e1 : decide (((a : Int) + b) % 18446744073709551616 < a) = decide (18446744073709551616 ≤ a + b) := decide_eq_decide.mpr (by omega)
  have e2 : decide (((c : Int) + d) % 18446744073709551616 < c) = decide (18446744073709551616 ≤ c + d) := decide_eq_decide.mpr (by omega)
  rw [e1, e2]
  have no : ∀ x : Prop, ¬ (a + b < c + d) → ¬ (a + b = c + d) → ¬ (a + b < c + d ∨ (alike = true ∧ a + b = c + d)) := fun _ h1 h2 h => h.elim h1 (fun h => h2 h.2)
  have same : ∀ p q : Int, (p = q ↔ a + b = c + d) → ¬ (a + b < c + d) → (if alike = true then some (p == q) else some false) = some (decide (a + b < c + d ∨ (alike = true ∧ a + b = c + d))) := by
    intro p q h1 h2
    cases alike
    · rw [if_neg (by decide)]
      exact congrArg some (decide_eq_false (fun h => h.elim h2 (fun h => by cases h.1))).symm
    · rw [if_pos rfl]
      congr 1
      rw [Bool.eq_iff_iff, beq_iff_eq, decide_eq_true_iff, h1]
      exact ⟨fun h => .inr ⟨rfl, h⟩, fun h => h.elim (fun h => absurd h h2) (fun h => h.2)⟩
  by_cases h1 : 18446744073709551616 ≤ a + b
  · by_cases h2 : 18446744073709551616 ≤ c + d
    · rw [decide_eq_true h1, decide_eq_true h2, if_neg (by decide)]
      by_cases l : ((a : Int) + b) % 18446744073709551616 < ((c : Int) + d) % 18446744073709551616
      · rw [if_pos l, decide_eq_true (Or.inl (by omega))]
      · rw [if_neg l]
        exact same _ _ ⟨fun _ => by omega, fun _ => by omega⟩ (by omega)
    · rw [decide_eq_true h1, decide_eq_false h2, if_pos (show (true != false) = true from rfl), decide_eq_false (no True (by omega) (by omega))]
  · by_cases h2 : 18446744073709551616 ≤ c + d
    · rw [decide_eq_false h1, decide_eq_true h2, if_pos (show (false != true) = true from rfl), decide_eq_true (Or.inl (by omega))]
    · rw [decide_eq_false h1, decide_eq_false h2, if_neg (by decide)]
      by_cases l : ((a : Int) + b) % 18446744073709551616 < ((c : Int) + d) % 18446744073709551616
      · rw [if_pos l, decide_eq_true (Or.inl (by omega))]
      · rw [if_neg l]
        exact same _ _ ⟨fun _ => by omega, fun _ => by omega⟩ (by omega)
theorem within_word (a n b m : Nat) (ha : a < 18446744073709551616) (hn : n < 18446744073709551616) (hb : b < 18446744073709551616) (hm : m < 18446744073709551616) : word_Within.f (a : Int) (n : Int) (b : Int) (m : Int) = some (decide (b ≤ a ∧ a + n ≤ b + m)) := by
  unfold word_Within.f
  by_cases c1 : (a : Int) < b
  · rw [if_pos c1]; exact congrArg some (decide_eq_false (by omega)).symm
  · rw [if_neg c1]
    by_cases c2 : (n : Int) > m
    · rw [if_pos c2]; exact congrArg some (decide_eq_false (by omega)).symm
    · rw [if_neg c2, u64_id _ (by omega) (by omega), u64_id _ (by omega) (by omega)]
      exact congrArg some (decide_eq_decide.mpr (by omega))
theorem within_ref (a n b m : Nat) (ha : a < 18446744073709551616) (hn : n < 18446744073709551616) (hb : b < 18446744073709551616) (hm : m < 18446744073709551616) : vireoref01_Within.f (a : Int) (n : Int) (b : Int) (m : Int) = some (decide (b ≤ a ∧ a + n ≤ b + m)) := by
  unfold vireoref01_Within.f
  by_cases c1 : (b : Int) ≤ a
  · rw [if_pos c1, ref_less_is a n b m ha hn hb hm true, Option.bind_some]
    exact congrArg some (decide_eq_decide.mpr ⟨fun h => h.elim (fun h => by omega) (fun h => by omega), fun h => by by_cases e : a + n = b + m; exact .inr ⟨rfl, e⟩; exact .inl (by omega)⟩)
  · rw [if_neg c1]; exact congrArg some (decide_eq_false (by omega)).symm
/-- the n low bytes of w, the lowest first -/
def bys (w n : Nat) : List Int := (List.range n).map fun i => ((w / 256 ^ i % 256 : Nat) : Int)
theorem bys_length (w n : Nat) : (bys w n).length = n := by simp [bys]
theorem bys_succ (w n : Nat) : bys w (n + 1) = bys w n ++ [((w / 256 ^ n % 256 : Nat) : Int)] := by simp [bys, List.range_succ]
theorem bys_rd (w n i : Nat) (h : i < n) : rd (bys w n) (i : Int) = ((w / 256 ^ i % 256 : Nat) : Int) := by
  unfold rd bys
  rw [Int.toNat_natCast]
  simp [List.getD_eq_getElem?_getD, h]
theorem div256 (w i : Nat) : w / 256 ^ i / 256 = w / 256 ^ (i + 1) := by rw [Nat.div_div_eq_div_mul, Nat.pow_succ]
/-- how many -/
def bcn (n : Int) : Nat := (mn (mx n 0) 4096).toNat
theorem bcn_le (n : Int) : bcn n ≤ 4096 := by unfold bcn mn mx; split <;> split <;> omega
theorem bcn_is (n : Int) : mn (mx n 0) 4096 = ((bcn n : Nat) : Int) := by unfold bcn mn mx; split <;> split <;> omega
theorem bcn_lt (n : Int) (i : Nat) (h : i < bcn n) : (i : Int) < n := by
  revert h
  unfold bcn mn mx
  split <;> split <;> omega
theorem wdiv256 (a : Nat) (h : a < 18446744073709551616) : IntKind.u64.wrap (Int.tdiv (a : Int) 256) = ((a / 256 : Nat) : Int) := by
  have e : Int.tdiv (a : Int) 256 = ((a / 256 : Nat) : Int) := tdiv_nat a 256
  rw [e]
  exact u64_nat _ (by omega)
theorem wmod256 (a : Nat) : (Int.tmod (a : Int) 256) % 256 = ((a % 256 : Nat) : Int) := by
  have e : Int.tmod (a : Int) 256 = ((a % 256 : Nat) : Int) := tmod_nat a 256
  rw [e]; omega
theorem vireoref01_Bytes_l0 (w : Nat) (hw : w < 18446744073709551616) (n : Int) : ∀ (m k i : Nat), i + m = bcn n → vireoref01_Bytes.l0 (m + k + 1) ((w / 256 ^ i : Nat) : Int) n (bys w i) (i : Int) = some (bys w (bcn n))
  | 0, k, i, h => by
    have hc := bcn_le n
    have e : i = bcn n := by omega
    rw [e, vireoref01_Bytes.l0]
    by_cases c : ((bcn n : Nat) : Int) < n
    · have : bcn n = 4096 := by revert c; unfold bcn mn mx; split <;> split <;> omega
      rw [if_pos c, if_neg (by omega)]
    · rw [if_neg c]
  | m + 1, k, i, h => by
    have hc := bcn_le n
    have e : m + 1 + k + 1 = (m + k + 1) + 1 := by omega
    have hi : (i : Int) < n := bcn_lt n i (by omega)
    have h4 : (i : Int) < 4096 := by omega
    have h5 : (bys w i).length < 140737488355328 := by rw [bys_length]; omega
    have h6 : i + 1 + m = bcn n := by omega
    have e3 : wrap64 ((i : Int) + 1) = ((i + 1 : Nat) : Int) := by rw [w64_id _ (by omega) (by omega)]; omega
    have hd : w / 256 ^ i ≤ w := Nat.div_le_self _ _
    have hlt : w / 256 ^ i < 18446744073709551616 := Nat.lt_of_le_of_lt hd hw
    have e1 : IntKind.u64.wrap (Int.tdiv ((w / 256 ^ i : Nat) : Int) 256) = ((w / 256 ^ (i + 1) : Nat) : Int) := (wdiv256 (w / 256 ^ i) hlt).trans (congrArg (fun z : Nat => (z : Int)) (div256 w i))
    have e2 : (Int.tmod ((w / 256 ^ i : Nat) : Int) 256) % 256 = ((w / 256 ^ i % 256 : Nat) : Int) := wmod256 (w / 256 ^ i)
    rw [e, vireoref01_Bytes.l0, if_pos hi, if_pos h4, if_pos h5, e1, e2, e3, ← bys_succ w i]
    exact vireoref01_Bytes_l0 w hw n m k (i + 1) h6
theorem vireoref01_Bytes_is (k : Nat) (hk : 5000 ≤ k) (w : Nat) (hw : w < 18446744073709551616) (n : Int) : vireoref01_Bytes.f k (w : Int) n = some (bys w (bcn n)) := by
  have hc := bcn_le n
  obtain ⟨k, rfl⟩ : ∃ j, k = bcn n + j + 1 := ⟨k - bcn n - 1, by omega⟩
  unfold vireoref01_Bytes.f
  have h := vireoref01_Bytes_l0 w hw n (bcn n) k 0 (by omega)
  rw [Nat.pow_zero, Nat.div_one] at h
  exact h
/-- the word of the first m bytes -/
def lov (l : List Int) : Nat → Nat
  | 0 => 0
  | m + 1 => lov l m + (rd l (m : Int)).toNat * 256 ^ m
def octets (l : List Int) : Prop := ∀ i : Nat, 0 ≤ rd l (i : Int) ∧ rd l (i : Int) < 256
theorem lov_lt (l : List Int) (h : octets l) : ∀ m, lov l m < 256 ^ m
  | 0 => by simp [lov]
  | m + 1 => by
    have ih := lov_lt l h m
    have hb := h m
    rw [lov, Nat.pow_succ]
    have : (rd l (m : Int)).toNat * 256 ^ m ≤ 255 * 256 ^ m := Nat.mul_le_mul_right _ (by omega)
    omega
theorem p256 (m : Nat) : 256 ^ m = 2 ^ (8 * m) := by rw [Nat.pow_mul]
theorem p256_le (m : Nat) (h : m ≤ 8) : 256 ^ m ≤ 18446744073709551616 := by
  have : 256 ^ m ≤ 256 ^ 8 := Nat.pow_le_pow_right (by omega) h
  have e : 256 ^ 8 = 18446744073709551616 := by decide
  omega
theorem vireoref01_Of_l0 (l : List Int) (h : octets l) : ∀ (m k acc : Nat), m ≤ l.length → m ≤ 8 → acc * 256 ^ m + lov l m < 18446744073709551616 → vireoref01_Of.l0 (m + k + 1) l (acc : Int) ((m : Int) - 1) = some ((acc * 256 ^ m + lov l m : Nat) : Int)
  | 0, k, acc, hm, h8, hv => by
    rw [vireoref01_Of.l0, if_neg (by omega)]
    simp [lov]
  | m + 1, k, acc, hm, h8, hv => by
    have hb := h m
    have e : m + 1 + k + 1 = (m + k + 1) + 1 := by omega
    have ei : ((m + 1 : Nat) : Int) - 1 = (m : Int) := by omega
    have er : IntKind.u64.wrap (rd l (m : Int)) = (((rd l (m : Int)).toNat : Nat) : Int) := by rw [u64_id _ (by omega) (by omega)]; omega
    have e3 : wrap64 ((m : Int) - 1) = (m : Int) - 1 := w64_id _ (by omega) (by omega)
    have c1 : (m : Int) ≥ 0 := by omega
    have c2 : (m : Int) < (l.length : Int) := by omega
    have hs : acc * 256 ^ (m + 1) + lov l (m + 1) = (acc * 256 + (rd l (m : Int)).toNat) * 256 ^ m + lov l m := by
      rw [lov, Nat.pow_succ, Nat.add_mul, Nat.mul_assoc acc 256, Nat.mul_comm 256, Nat.add_assoc, Nat.add_comm (lov l m)]
    rw [hs] at hv ⊢
    have hp : 0 < 256 ^ m := Nat.pow_pos (by decide)
    have hle : acc * 256 + (rd l (m : Int)).toNat ≤ (acc * 256 + (rd l (m : Int)).toNat) * 256 ^ m := Nat.le_mul_of_pos_right _ hp
    have hlt : acc * 256 + (rd l (m : Int)).toNat < 18446744073709551616 := Nat.lt_of_le_of_lt (Nat.le_trans hle (Nat.le_add_right _ _)) hv
    have ea : IntKind.u64.wrap (IntKind.u64.wrap ((acc : Int) * 256) + (((rd l (m : Int)).toNat : Nat) : Int)) = ((acc * 256 + (rd l (m : Int)).toNat : Nat) : Int) := by
      clear hv hle hp hs
      rw [u64_id ((acc : Int) * 256) (by omega) (by omega), u64_id _ (by omega) (by omega)]; omega
    rw [e, ei, vireoref01_Of.l0, if_pos c1, if_pos c1, if_pos c2, er, ea, e3]
    exact vireoref01_Of_l0 l h m k _ (Nat.le_of_succ_le hm) (Nat.le_of_succ_le h8) hv
theorem vireoref01_Of_is (k : Nat) (hk : 20 ≤ k) (l : List Int) (h : octets l) (hl : l.length ≤ 1000) : vireoref01_Of.f k l = some ((lov l (min l.length 8) : Nat) : Int) := by
  obtain ⟨k, rfl⟩ : ∃ j, k = min l.length 8 + j + 1 := ⟨k - min l.length 8 - 1, by omega⟩
  have e : mn (l.length : Int) 8 = ((min l.length 8 : Nat) : Int) := by unfold mn; split <;> omega
  have h1 := lov_lt l h (min l.length 8)
  have h2 := p256_le (min l.length 8) (by omega)
  unfold vireoref01_Of.f
  rw [e]
  have := vireoref01_Of_l0 l h (min l.length 8) k 0 (by omega) (by omega) (by omega)
  rw [Nat.zero_mul, Nat.zero_add] at this
  exact this
theorem lov_bys (w n : Nat) : ∀ m, m ≤ n → lov (bys w n) m = w % 256 ^ m
  | 0, _ => by simp [lov, Nat.mod_one]
  | m + 1, h => by
    rw [lov, lov_bys w n m (by omega), bys_rd w n m (by omega), Int.toNat_natCast, Nat.pow_succ, Nat.mod_mul, Nat.mul_comm]
theorem octets_bys (w n : Nat) : octets (bys w n) := by
  intro i
  by_cases h : i < n
  · rw [bys_rd w n i h]; omega
  · have : rd (bys w n) (i : Int) = 0 := by
      unfold rd bys
      rw [Int.toNat_natCast]
      simp [List.getD_eq_getElem?_getD, h]
    omega
def may (a : Nat) (n : Int) : Bool := decide ((n = 4 ∨ n = 8) ∧ a % n.toNat = 0 ∧ a + n.toNat ≤ 65536)
theorem al4 (a : Nat) (ha : a < 18446744073709551616) : word_Aligned.f (a : Int) 4 = some (decide (a % 4 = 0)) := by
  have e : IntKind.u64.wrap ((4 : Int) - 1) = ((3 : Nat) : Int) := by rw [IntKind.wrap_u64]; decide
  have e2 : a &&& 3 = a % 4 := Nat.and_two_pow_sub_one_eq_mod a 2
  unfold word_Aligned.f
  rw [if_neg (by decide), e, and_nat a 3 ha (by decide), e2]
  congr 1
  by_cases h : a % 4 = 0
  · rw [h]; rfl
  · rw [decide_eq_false h]; exact beq_eq_false_iff_ne.mpr (by omega)
theorem al8 (a : Nat) (ha : a < 18446744073709551616) : word_Aligned.f (a : Int) 8 = some (decide (a % 8 = 0)) := by
  have e : IntKind.u64.wrap ((8 : Int) - 1) = ((7 : Nat) : Int) := by rw [IntKind.wrap_u64]; decide
  have e2 : a &&& 7 = a % 8 := Nat.and_two_pow_sub_one_eq_mod a 3
  unfold word_Aligned.f
  rw [if_neg (by decide), e, and_nat a 7 ha (by decide), e2]
  congr 1
  by_cases h : a % 8 = 0
  · rw [h]; rfl
  · rw [decide_eq_false h]; exact beq_eq_false_iff_ne.mpr (by omega)
theorem clint_may_is (a : Nat) (ha : a < 18446744073709551616) (n : Int) : clint_may.f (a : Int) n = some (may a n) := by
  have e4 : IntKind.u64.wrap (4 : Int) = 4 := by rw [IntKind.wrap_u64]; decide
  have e8 : IntKind.u64.wrap (8 : Int) = 8 := by rw [IntKind.wrap_u64]; decide
  unfold clint_may.f may
  by_cases c4 : n = 4
  · subst c4
    rw [if_pos rfl, e4, al4 a ha, Option.bind_some]
    by_cases h : a % 4 = 0
    · have w := within_word a 4 0 65536 ha (by decide) (by decide) (by decide)
      rw [if_pos (decide_eq_true h), show (4 : Int) = ((4 : Nat) : Int) from rfl, show (0 : Int) = ((0 : Nat) : Int) from rfl, show (65536 : Int) = ((65536 : Nat) : Int) from rfl, w, Option.bind_some]
      congr 1
      exact decide_eq_decide.mpr (by simp; omega)
    · rw [if_neg (by simpa using h)]
      exact congrArg some (decide_eq_false (by simp; omega)).symm
  · rw [if_neg c4]
    by_cases c8 : n = 8
    · subst c8
      rw [if_pos rfl, e8, al8 a ha, Option.bind_some]
      by_cases h : a % 8 = 0
      · have w := within_word a 8 0 65536 ha (by decide) (by decide) (by decide)
        rw [if_pos (decide_eq_true h), show (8 : Int) = ((8 : Nat) : Int) from rfl, show (0 : Int) = ((0 : Nat) : Int) from rfl, show (65536 : Int) = ((65536 : Nat) : Int) from rfl, w, Option.bind_some]
        congr 1
        exact decide_eq_decide.mpr (by simp; omega)
      · rw [if_neg (by simpa using h)]
        exact congrArg some (decide_eq_false (by simp; omega)).symm
    · rw [if_neg c8]
      exact congrArg some (decide_eq_false (by omega)).symm
theorem low7 (a : Nat) (ha : a < 18446744073709551616) : Go.bits .andNot .u64 (a : Int) 7 = ((a / 8 * 8 : Nat) : Int) := by
  have e : a &&& (18446744073709551615 - 7) = a / 8 * 8 := by
    apply Nat.eq_of_testBit_eq
    intro i
    have h7 : (7 : Nat) = 2 ^ 3 - 1 := rfl
    have h8 : a / 8 * 8 = a / 2 ^ 3 * 2 ^ 3 := rfl
    rw [Nat.testBit_and, tb_not 7 i (by decide), h8, Nat.testBit_mul_two_pow, Nat.testBit_div_two_pow, h7, Nat.testBit_two_pow_sub_one]
    by_cases hi : 3 ≤ i
    · have e1 : i - 3 + 3 = i := by omega
      by_cases h64 : i < 64
      · have : ¬ i < 3 := by omega
        simp [hi, h64, e1, this]
      · have : a.testBit i = false := Nat.testBit_lt_two_pow (Nat.lt_of_lt_of_le (by rw [← two64] at ha; exact ha) (Nat.pow_le_pow_right (by decide) (by omega)))
        simp [e1, this]
    · have : i < 3 := by omega
      simp [hi, this]
  have := andNot_nat a 7 ha (by decide)
  rw [e] at this
  exact this
theorem and7 (a : Nat) (ha : a < 18446744073709551616) : Go.bits .and .u64 (a : Int) 7 = ((a % 8 : Nat) : Int) := by
  have := and_nat a 7 ha (by decide)
  rw [show (7 : Nat) = 2 ^ 3 - 1 from rfl, Nat.and_two_pow_sub_one_eq_mod] at this
  exact this
theorem lowW (a : Nat) (ha : a < 18446744073709551616) : wrap64 ((wrap64 (Go.bits .and .u64 (a : Int) 7)) * 8) = ((8 * (a % 8) : Nat) : Int) := by
  rw [and7 a ha, w64_nat _ (by omega), show ((a % 8 : Nat) : Int) * 8 = ((8 * (a % 8) : Nat) : Int) by omega, w64_nat _ (by omega)]
theorem half_w (s : Bool) (c n : Int) (a : Nat) (ha : a < 18446744073709551616) : clint_Clint_half.w s c n (a : Int) = some (if a / 8 = 2048 then 2 else if a / 8 = 6143 then 3 else 0) := by
  unfold clint_Clint_half.w
  rw [low7 a ha]
  by_cases h : a / 8 = 2048
  · rw [if_pos (by omega), if_pos h]
  · rw [if_neg (by omega), if_neg h]
    by_cases h2 : a / 8 = 6143
    · rw [if_pos (by omega), if_pos h2]
    · rw [if_neg (by omega), if_neg h2]
theorem half_2 (s : Bool) (c n : Int) (a : Nat) (ha : a < 18446744073709551616) (h : a / 8 = 2048) : clint_Clint_half_2.f s c n (a : Int) = some ((8 * (a % 8) : Nat) : Int) := by
  unfold clint_Clint_half_2.f
  rw [lowW a ha, low7 a ha, if_pos (by omega)]
theorem half_3 (s : Bool) (c n : Int) (a : Nat) (ha : a < 18446744073709551616) (h : a / 8 = 6143) : clint_Clint_half_3.f s c n (a : Int) = some ((8 * (a % 8) : Nat) : Int) := by
  unfold clint_Clint_half_3.f
  rw [lowW a ha, low7 a ha, if_neg (by omega), if_pos (by omega)]
theorem half_0 (s : Bool) (c n : Int) (a : Nat) (ha : a < 18446744073709551616) (h : ¬ a / 8 = 2048) (h2 : ¬ a / 8 = 6143) : clint_Clint_half_0.f s c n (a : Int) = some 0 := by
  unfold clint_Clint_half_0.f
  rw [low7 a ha, if_neg (by omega), if_neg (by omega)]
/-- A state: the soft line, the mark, the time. -/
structure CS where
  s : Bool
  c : Nat
  n : Nat
def CS.ok (z : CS) : Prop := z.c < 18446744073709551616 ∧ z.n < 18446744073709551616
def stW (z : CS) (a : Nat) (k : Int) (v : Nat) : CS :=
  if a / 8 = 2048 then ⟨z.s, putW z.c (8 * (a % 8) : Nat) (8 * k) v, z.n⟩
  else if a / 8 = 6143 then ⟨z.s, z.c, putW z.n (8 * (a % 8) : Nat) (8 * k) v⟩
  else if a = 0 then ⟨v.testBit 0, z.c, z.n⟩ else z
def ldW (z : CS) (a : Nat) (k : Int) : Nat :=
  if a / 8 = 2048 then getW z.c (8 * (a % 8) : Nat) (8 * k)
  else if a / 8 = 6143 then getW z.n (8 * (a % 8) : Nat) (8 * k)
  else if a = 0 ∧ z.s = true then 1 else 0
theorem stW_ok {z : CS} (h : z.ok) (a : Nat) (k : Int) (v : Nat) : (stW z a k v).ok := by
  unfold stW
  split
  · exact ⟨putW_lt h.1 _ _ _, h.2⟩
  · split
    · exact ⟨h.1, putW_lt h.2 _ _ _⟩
    · split
      · exact h
      · exact h
theorem may_k {a : Nat} {k : Int} (h : may a k = true) : (k = 4 ∨ k = 8) ∧ a % k.toNat = 0 ∧ a + k.toNat ≤ 65536 := of_decide_eq_true h
theorem w8k {k : Int} (h : k = 4 ∨ k = 8) : wrap64 (8 * k) = 8 * k := w64_id _ (by omega) (by omega)
theorem Store_is (z : CS) (hz : z.ok) (a : Nat) (ha : a < 18446744073709551616) (k : Int) (v : Nat) (hv : v < 18446744073709551616) :
    clint_Clint_Store.f z.s (z.c : Int) (z.n : Int) (a : Int) k (v : Int) = some (if may a k = true then (true, (stW z a k v).s, ((stW z a k v).c : Int), ((stW z a k v).n : Int)) else (false, z.s, (z.c : Int), (z.n : Int))) := by
  unfold clint_Clint_Store.f
  rw [clint_may_is a ha, Option.bind_some]
  cases hm : may a k with
  | false => rw [if_neg (show ¬ (false = true) by decide), if_neg (show ¬ (false = true) by decide)]
  | true =>
    have hk := (may_k hm).1
    rw [if_pos rfl, if_pos rfl, half_w _ _ _ a ha, w8k hk]
    unfold stW
    by_cases h1 : a / 8 = 2048
    · rw [if_pos h1, if_pos rfl, half_2 _ _ _ a ha h1, Option.bind_some, word_Put_is _ _ _ _ hz.1 hv, Option.bind_some, if_neg (by omega), if_pos h1]
    · rw [if_neg h1]
      by_cases h2 : a / 8 = 6143
      · rw [if_pos h2, if_neg (by simp), if_pos rfl, half_3 _ _ _ a ha h2, Option.bind_some, word_Put_is _ _ _ _ hz.2 hv, Option.bind_some, if_neg (by omega), if_neg h1, if_pos h2]
      · rw [if_neg h2, if_neg (by simp), if_neg (by simp), half_0 _ _ _ a ha h1 h2, Option.bind_some, if_neg h1, if_neg h2]
        by_cases h3 : a = 0
        · rw [if_pos (by omega), if_pos h3, word_Bit_is v 0 hv, Option.bind_some]
          simp
        · rw [if_neg (by omega), if_neg h3]
theorem Load_is (z : CS) (hz : z.ok) (a : Nat) (ha : a < 18446744073709551616) (k : Int) :
    clint_Clint_Load.f z.s (z.c : Int) (z.n : Int) (a : Int) k = some (if may a k = true then ((ldW z a k : Int), true) else (0, false)) := by
  unfold clint_Clint_Load.f
  rw [clint_may_is a ha, Option.bind_some]
  cases hm : may a k with
  | false => rw [if_neg (show ¬ (false = true) by decide), if_neg (show ¬ (false = true) by decide)]
  | true =>
    have hk := (may_k hm).1
    rw [if_pos rfl, if_pos rfl, half_w _ _ _ a ha, w8k hk]
    unfold ldW
    by_cases h1 : a / 8 = 2048
    · rw [if_pos h1, if_pos rfl, half_2 _ _ _ a ha h1, Option.bind_some, word_Get_is _ _ _ hz.1, Option.bind_some, if_pos h1]
    · rw [if_neg h1]
      by_cases h2 : a / 8 = 6143
      · rw [if_pos h2, if_neg (by simp), if_pos rfl, half_3 _ _ _ a ha h2, Option.bind_some, word_Get_is _ _ _ hz.2, Option.bind_some, if_neg h1, if_pos h2]
      · rw [if_neg h2, if_neg (by simp), if_neg (by simp), half_0 _ _ _ a ha h1 h2, Option.bind_some, if_neg h1, if_neg h2]
        by_cases h3 : a = 0
        · rw [if_pos (by omega)]
          cases z.s <;> simp [h3]
        · rw [if_neg (by omega), if_neg (by simp [h3])]; rfl
def lines (z : CS) : Nat := (if z.s then 8 else 0) + (if z.c ≤ z.n then 128 else 0)
theorem Lines_is (z : CS) : clint_Clint_Lines.f z.s (z.c : Int) (z.n : Int) = some (lines z : Int) := by
  have e1 : Go.bits .or .u64 (Go.bits .or .u64 0 8) 128 = 136 := by decide +kernel
  have e2 : Go.bits .or .u64 0 8 = 8 := by decide +kernel
  have e3 : Go.bits .or .u64 0 128 = 128 := by decide +kernel
  unfold clint_Clint_Lines.f lines
  rw [e1, e2, e3]
  cases z.s
  · by_cases h : z.c ≤ z.n
    · rw [if_neg (by decide), if_pos (by omega), if_pos h]; rfl
    · rw [if_neg (by decide), if_neg (by omega), if_neg h]; rfl
  · by_cases h : z.c ≤ z.n
    · rw [if_pos rfl, if_pos (by omega), if_pos h]; rfl
    · rw [if_pos rfl, if_neg (by omega), if_neg h]; rfl
theorem ref_Lines_is (z : CS) : vireoref11_Lines.f z.s (z.c : Int) (z.n : Int) = some (lines z : Int) := by
  unfold vireoref11_Lines.f lines
  cases z.s
  · by_cases h : z.c ≤ z.n
    · rw [if_neg (by decide), if_pos (by omega), if_pos h]; rfl
    · rw [if_neg (by decide), if_neg (by omega), if_neg h]; rfl
  · by_cases h : z.c ≤ z.n
    · rw [if_pos rfl, if_pos (by omega), if_pos h]; rfl
    · rw [if_pos rfl, if_neg (by omega), if_neg h]; rfl
theorem May_is (a : Nat) (ha : a < 18446744073709551616) (n : Int) : vireoref11_May.f (a : Int) n = some (may a n) := by
  have e4 : IntKind.u64.wrap (4 : Int) = 4 := by rw [IntKind.wrap_u64]; decide
  have e8 : IntKind.u64.wrap (8 : Int) = 8 := by rw [IntKind.wrap_u64]; decide
  unfold vireoref11_May.f may
  by_cases c4 : n = 4
  · subst c4
    rw [if_pos rfl, e4, if_neg (by decide), show (4 : Int) = ((4 : Nat) : Int) from rfl, tmod_nat]
    by_cases h : a % 4 = 0
    · rw [if_pos (by omega), show (0 : Int) = ((0 : Nat) : Int) from rfl, show (65536 : Int) = ((65536 : Nat) : Int) from rfl, within_ref a 4 0 65536 ha (by decide) (by decide) (by decide), Option.bind_some]
      congr 1
      exact decide_eq_decide.mpr (by simp; omega)
    · rw [if_neg (by omega)]
      exact congrArg some (decide_eq_false (by simp; omega)).symm
  · rw [if_neg c4]
    by_cases c8 : n = 8
    · subst c8
      rw [if_pos rfl, e8, if_neg (by decide), show (8 : Int) = ((8 : Nat) : Int) from rfl, tmod_nat]
      by_cases h : a % 8 = 0
      · rw [if_pos (by omega), show (0 : Int) = ((0 : Nat) : Int) from rfl, show (65536 : Int) = ((65536 : Nat) : Int) from rfl, within_ref a 8 0 65536 ha (by decide) (by decide) (by decide), Option.bind_some]
        congr 1
        exact decide_eq_decide.mpr (by simp; omega)
      · rw [if_neg (by omega)]
        exact congrArg some (decide_eq_false (by simp; omega)).symm
    · rw [if_neg c8]
      exact congrArg some (decide_eq_false (by omega)).symm
def byW (z : CS) (a : Nat) : Nat :=
  if a / 8 = 2048 then z.c / 256 ^ (a % 8) % 256 else if a / 8 = 6143 then z.n / 256 ^ (a % 8) % 256 else if a = 0 ∧ z.s = true then 1 else 0
theorem cnt8 : cnt 8 = 8 := by decide
theorem getW8 (x j : Nat) (hj : j < 8) : getW x ((8 * j : Nat) : Int) 8 = x / 256 ^ j % 256 := by
  unfold getW
  rw [if_pos (by omega), Int.toNat_natCast, cnt8, p256]
theorem ref_get_is (z : CS) (hz : z.ok) (a : Nat) (ha : a < 18446744073709551616) (k : Nat) (hk : 150 ≤ k) : vireoref11_get.f k z.s (z.c : Int) (z.n : Int) (a : Int) = some (byW z a : Int) := by
  obtain ⟨k, rfl⟩ : ∃ j, k = j + 2 := ⟨k - 2, by omega⟩
  have hb : ∀ x : Nat, ((x % 256 : Nat) : Int) % 256 = ((x % 256 : Nat) : Int) := fun x => by omega
  have last : vireoref11_get.j1 (k + 1) (a : Int) false z.s (z.c : Int) (z.n : Int) = some (((if a = 0 ∧ z.s = true then 1 else 0) : Nat) : Int) := by
    rw [vireoref11_get.j1, if_neg (by decide)]
    by_cases h : a = 0
    · rw [if_pos (by omega)]
      cases z.s <;> simp [h]
    · rw [if_neg (by omega), if_neg (by simp [h])]; rfl
  have second : vireoref11_get.j0 (k + 2) (a : Int) false z.s (z.c : Int) (z.n : Int) = some (((if a / 8 = 6143 then z.n / 256 ^ (a % 8) % 256 else if a = 0 ∧ z.s = true then 1 else 0) : Nat) : Int) := by
    rw [vireoref11_get.j0, if_neg (by decide)]
    by_cases h : 49144 ≤ a
    · rw [if_pos (by omega)]
      by_cases h2 : a < 49152
      · have e : wrap64 ((wrap64 (IntKind.u64.wrap ((a : Int) - 49144))) * 8) = ((8 * (a % 8) : Nat) : Int) := by
          rw [u64_id _ (by omega) (by omega), w64_id ((a : Int) - 49144) (by omega) (by omega), w64_id _ (by omega) (by omega)]; omega
        rw [decide_eq_true (by omega), vireoref11_get.j1, if_pos rfl, e, vireoref01_Get_is _ hz.2 _ _ _ (by omega), Option.bind_some, getW8 _ _ (Nat.mod_lt _ (by decide)), hb, if_pos (by omega)]
      · rw [decide_eq_false (by omega), last, if_neg (show ¬ a / 8 = 6143 by omega)]
    · rw [if_neg (show ¬ (a : Int) ≥ 49144 by omega), last, if_neg (show ¬ a / 8 = 6143 by omega)]
  unfold vireoref11_get.f byW
  by_cases h : 16384 ≤ a
  · rw [if_pos (by omega)]
    by_cases h2 : a < 16392
    · have e : wrap64 ((wrap64 (IntKind.u64.wrap ((a : Int) - 16384))) * 8) = ((8 * (a % 8) : Nat) : Int) := by
        rw [u64_id _ (by omega) (by omega), w64_id ((a : Int) - 16384) (by omega) (by omega), w64_id _ (by omega) (by omega)]; omega
      rw [decide_eq_true (by omega), vireoref11_get.j0, if_pos rfl, e, vireoref01_Get_is _ hz.1 _ _ _ (by omega), Option.bind_some, getW8 _ _ (Nat.mod_lt _ (by decide)), hb, if_pos (by omega)]
    · rw [decide_eq_false (by omega), second, if_neg (show ¬ a / 8 = 2048 by omega)]
  · rw [if_neg (by omega), second, if_neg (show ¬ a / 8 = 2048 by omega)]
def byL (z : CS) (a n : Nat) : List Int := (List.range n).map fun j => ((byW z (a + j) : Nat) : Int)
theorem byW_lt (z : CS) (a : Nat) : byW z a < 256 := by
  unfold byW
  split
  · exact Nat.mod_lt _ (by decide)
  · split
    · exact Nat.mod_lt _ (by decide)
    · split <;> decide
theorem byL_succ (z : CS) (a n : Nat) : byL z a (n + 1) = byL z a n ++ [((byW z (a + n) : Nat) : Int)] := by simp [byL, List.range_succ]
theorem byL_len (z : CS) (a n : Nat) : (byL z a n).length = n := by simp [byL]
theorem byL_rd (z : CS) (a n i : Nat) (h : i < n) : rd (byL z a n) (i : Int) = ((byW z (a + i) : Nat) : Int) := by
  unfold rd byL
  rw [Int.toNat_natCast]
  simp [List.getD_eq_getElem?_getD, h]
theorem byL_octets (z : CS) (a n : Nat) : octets (byL z a n) := by
  intro i
  by_cases h : i < n
  · rw [byL_rd z a n i h]; have := byW_lt z (a + i); omega
  · have : rd (byL z a n) (i : Int) = 0 := by
      unfold rd byL
      rw [Int.toNat_natCast]
      simp [List.getD_eq_getElem?_getD, h]
    omega
theorem lov_byL (z : CS) (a : Nat) (k : Int) (h : may a k = true) : lov (byL z a k.toNat) k.toNat = ldW z a k := by
  obtain ⟨hk, hm, hl⟩ := may_k h
  have hkn : k.toNat = 4 ∨ k.toNat = 8 := by omega
  have key : ∀ (x n : Nat), n = k.toNat → (∀ j, j < n → byW z (a + j) = x / 256 ^ (a % 8) / 256 ^ j % 256) → lov (byL z a n) n = getW x (8 * (a % 8) : Nat) (8 * k) := by
    intro x n hn hx
    have : byL z a n = bys (x / 256 ^ (a % 8)) n := by
      unfold byL bys
      apply List.map_congr_left
      intro j hj
      rw [hx j (List.mem_range.1 hj)]
    rw [this, lov_bys _ n n (Nat.le_refl _)]
    unfold getW
    have ec : cnt (8 * k) = 8 * n := by unfold cnt; omega
    rw [if_pos (by omega), Int.toNat_natCast, ec, ← p256, ← p256]
  unfold ldW
  by_cases h1 : a / 8 = 2048
  · rw [if_pos h1]
    apply key _ _ rfl
    intro j hj
    unfold byW
    have e1 : (a + j) / 8 = 2048 := by rcases hk with rfl | rfl <;> simp at hm hj <;> omega
    have e2 : (a + j) % 8 = a % 8 + j := by rcases hk with rfl | rfl <;> simp at hm hj <;> omega
    rw [if_pos e1, e2, Nat.pow_add, Nat.div_div_eq_div_mul]
  · rw [if_neg h1]
    by_cases h2 : a / 8 = 6143
    · rw [if_pos h2]
      apply key _ _ rfl
      intro j hj
      unfold byW
      have e1 : (a + j) / 8 = 6143 := by rcases hk with rfl | rfl <;> simp at hm hj <;> omega
      have e2 : (a + j) % 8 = a % 8 + j := by rcases hk with rfl | rfl <;> simp at hm hj <;> omega
      rw [if_neg (by omega), if_pos e1, e2, Nat.pow_add, Nat.div_div_eq_div_mul]
    · rw [if_neg h2]
      have zeros : ∀ n, n ≤ k.toNat → lov (byL z a k.toNat) n = if 0 < n ∧ a = 0 ∧ z.s = true then 1 else 0 := by
        intro n
        induction n with
        | zero => intro _; simp [lov]
        | succ n ih =>
          intro hn
          rw [lov, ih (by omega), byL_rd z a _ n (by omega), Int.toNat_natCast]
          have e1 : ¬ (a + n) / 8 = 2048 := by rcases hk with rfl | rfl <;> simp at hm hn <;> omega
          have e2 : ¬ (a + n) / 8 = 6143 := by rcases hk with rfl | rfl <;> simp at hm hn <;> omega
          unfold byW
          rw [if_neg e1, if_neg e2]
          by_cases hn0 : n = 0
          · subst hn0
            simp
          · have : ¬ a + n = 0 := by omega
            have h3 : 0 < n := by omega
            simp [this, h3, hn0]
      rw [zeros _ (Nat.le_refl _)]
      have : 0 < k.toNat := by omega
      simp [this]
theorem ref_Load_l0 (z : CS) (hz : z.ok) (a : Nat) (k : Int) (hm : may a k = true) : ∀ (m K i : Nat), i + m = k.toNat → 150 ≤ K → vireoref11_Load.l0 (m + K + 1) (a : Int) k (byL z a i) (i : Int) z.s (z.c : Int) (z.n : Int) = some ((ldW z a k : Int), true)
  | 0, K, i, hi, hK => by
    have hk := may_k hm
    have hin : i = k.toNat := by omega
    subst hin
    have e : min (byL z a k.toNat).length 8 = k.toNat := by rw [byL_len]; omega
    rw [vireoref11_Load.l0, if_neg (by omega), vireoref01_Of_is _ (by omega) _ (byL_octets _ _ _) (by rw [byL_len]; omega), Option.bind_some, e, lov_byL z a k hm]
  | m + 1, K, i, hi, hK => by
    have hk := may_k hm
    have e1 : IntKind.u64.wrap ((a : Int) + IntKind.u64.wrap (i : Int)) = ((a + i : Nat) : Int) := by
      rw [u64_nat i (by omega), show (a : Int) + (i : Int) = ((a + i : Nat) : Int) by omega, u64_nat _ (by omega)]
    have e2 : wrap64 ((i : Int) + 1) = ((i + 1 : Nat) : Int) := by rw [w64_id _ (by omega) (by omega)]; omega
    rw [show m + 1 + K + 1 = (m + K + 1) + 1 by omega, vireoref11_Load.l0, if_pos (by omega), e1, ref_get_is z hz _ (by omega) _ (by omega), Option.bind_some, if_pos (by rw [byL_len]; omega), ← byL_succ, e2]
    exact ref_Load_l0 z hz a k hm m K (i + 1) (by omega) hK
theorem ref_Load_is (z : CS) (hz : z.ok) (a : Nat) (ha : a < 18446744073709551616) (k : Int) (K : Nat) (hK : 200 ≤ K) :
    vireoref11_Load.f K z.s (z.c : Int) (z.n : Int) (a : Int) k = some (if may a k = true then ((ldW z a k : Int), true) else (0, false)) := by
  unfold vireoref11_Load.f
  rw [May_is a ha, Option.bind_some]
  cases hm : may a k with
  | false => rw [if_neg (show ¬ (false = true) by decide), if_neg (show ¬ (false = true) by decide)]
  | true =>
    rw [if_pos rfl, if_pos rfl]
    have hk := may_k hm
    have := ref_Load_l0 z hz a k hm k.toNat (K - k.toNat - 1) 0 (by omega) (by omega)
    rw [show k.toNat + (K - k.toNat - 1) + 1 = K by omega] at this
    exact this
theorem tb_putW (x a n v i : Nat) (ha : a ≤ 63) (hn : n ≤ 64) : (putW x (a : Int) (n : Int) v).testBit i = (decide (i < 64) && if a ≤ i ∧ i < a + n then v.testBit (i - a) else x.testBit i) := by
  unfold putW
  have ec : cnt (n : Int) = n := by unfold cnt; omega
  rw [if_pos (by omega), testBit_ob, Int.toNat_natCast, ec]
theorem putW_zero (x a v : Nat) (hx : x < 18446744073709551616) (ha : a ≤ 63) : putW x (a : Int) ((0 : Nat) : Int) v = x := by
  apply eq64 (putW_lt hx _ _ _) hx
  intro i hi
  rw [tb_putW x a 0 v i ha (by omega), if_neg (by omega)]
  simp [hi]
theorem putW_next (x a v j : Nat) (hx : x < 18446744073709551616) (ha : a + j < 8) :
    putW (putW x ((8 * a : Nat) : Int) ((8 * j : Nat) : Int) v) ((8 * (a + j) : Nat) : Int) ((8 : Nat) : Int) (v / 256 ^ j % 256) = putW x ((8 * a : Nat) : Int) ((8 * (j + 1) : Nat) : Int) v := by
  apply eq64 (putW_lt (putW_lt hx _ _ _) _ _ _) (putW_lt hx _ _ _)
  intro i hi
  rw [tb_putW _ _ 8 _ i (by omega) (by omega), tb_putW _ _ _ _ i (by omega) (by omega), tb_putW _ _ _ _ i (by omega) (by omega)]
  by_cases h1 : 8 * (a + j) ≤ i ∧ i < 8 * (a + j) + 8
  · rw [if_pos h1, if_pos (by omega), p256, show (256 : Nat) = 2 ^ 8 from rfl, Nat.testBit_mod_two_pow, Nat.testBit_div_two_pow]
    have e : i - 8 * (a + j) + 8 * j = i - 8 * a := by omega
    have e2 : i - 8 * (a + j) < 8 := by omega
    rw [e]
    simp [e2]
  · rw [if_neg h1]
    by_cases h2 : 8 * a ≤ i ∧ i < 8 * a + 8 * j
    · rw [if_pos h2, if_pos (by omega)]; simp
    · rw [if_neg h2, if_neg (by omega)]; simp
def setW (z : CS) (a : Nat) (b : Nat) : CS :=
  ⟨if a = 0 then decide (b % 2 = 1) else z.s, if a / 8 = 2048 then putW z.c ((8 * (a % 8) : Nat) : Int) ((8 : Nat) : Int) b else z.c, if a / 8 = 6143 then putW z.n ((8 * (a % 8) : Nat) : Int) ((8 : Nat) : Int) b else z.n⟩
theorem ref_set_is (z : CS) (hz : z.ok) (a : Nat) (ha : a < 18446744073709551616) (b : Nat) (hb : b < 256) (k : Nat) (hk : 150 ≤ k) :
    vireoref11_set.f k z.s (z.c : Int) (z.n : Int) (a : Int) (b : Int) = some ((setW z a b).s, ((setW z a b).c : Int), ((setW z a b).n : Int)) := by
  obtain ⟨k, rfl⟩ : ∃ j, k = j + 3 := ⟨k - 3, by omega⟩
  have eb : IntKind.u64.wrap (b : Int) = (b : Int) := u64_nat b (by omega)
  have et : (Int.tmod (b : Int) 2 == 1) = decide (b % 2 = 1) := by
    rw [show (2 : Int) = ((2 : Nat) : Int) from rfl, tmod_nat, Bool.eq_iff_iff, beq_iff_eq, decide_eq_true_iff]; omega
  have j2 : ∀ (y : Bool) (C : Int), (y = true ↔ 49144 ≤ a ∧ a < 49152) → vireoref11_set.j2 (k + 1) (a : Int) (b : Int) y z.s C (z.n : Int) = some ((setW z a b).s, C, ((setW z a b).n : Int)) := by
    intro y C hy
    unfold setW
    rw [vireoref11_set.j2, et, eb]
    cases y with
    | true =>
      have h := hy.1 rfl
      have e : wrap64 ((wrap64 (IntKind.u64.wrap ((a : Int) - 49144))) * 8) = ((8 * (a % 8) : Nat) : Int) := by
        rw [u64_id _ (by omega) (by omega), w64_id ((a : Int) - 49144) (by omega) (by omega), w64_id _ (by omega) (by omega)]; omega
      rw [if_pos rfl, e, vireoref01_Put_is _ hz.2 _ _ _ (by omega) _ (by omega), Option.bind_some, if_neg (by omega), if_neg (show ¬ a = 0 by omega), if_pos (show a / 8 = 6143 by omega)]
      rfl
    | false =>
      have h : ¬ (49144 ≤ a ∧ a < 49152) := fun q => by have := hy.2 q; simp at this
      rw [if_neg (by decide)]
      have h2 : ¬ a / 8 = 6143 := by omega
      by_cases h3 : a = 0
      · rw [if_pos (by omega), if_pos h3]; simp only [h2, if_false]
      · rw [if_neg (by omega), if_neg h3]; simp only [h2, if_false]
  have j1 : ∀ (C : Int), vireoref11_set.j1 (k + 2) (a : Int) (b : Int) z.s C (z.n : Int) = some ((setW z a b).s, C, ((setW z a b).n : Int)) := by
    intro C
    rw [vireoref11_set.j1]
    by_cases h : 49144 ≤ a
    · rw [if_pos (by omega)]
      exact j2 _ C (by simp; omega)
    · rw [if_neg (by omega)]
      exact j2 _ C (by simp; omega)
  unfold vireoref11_set.f
  by_cases h : 16384 ≤ a ∧ a < 16392
  · have e : wrap64 ((wrap64 (IntKind.u64.wrap ((a : Int) - 16384))) * 8) = ((8 * (a % 8) : Nat) : Int) := by
      rw [u64_id _ (by omega) (by omega), w64_id ((a : Int) - 16384) (by omega) (by omega), w64_id _ (by omega) (by omega)]; omega
    have ec : (setW z a b).c = putW z.c ((8 * (a % 8) : Nat) : Int) ((8 : Nat) : Int) b := by unfold setW; rw [if_pos (show a / 8 = 2048 by omega)]
    rw [if_pos (by omega), decide_eq_true (by omega), vireoref11_set.j0, if_pos rfl, e, eb, vireoref01_Put_is _ hz.1 _ _ _ (by omega) _ (by omega), Option.bind_some, j1, ec]
    rfl
  · have ec : (setW z a b).c = z.c := by unfold setW; rw [if_neg (show ¬ a / 8 = 2048 by omega)]
    rw [ec]
    by_cases h1 : 16384 ≤ a
    · rw [if_pos (by omega), decide_eq_false (by omega), vireoref11_set.j0, if_neg (by decide), j1]
    · rw [if_neg (by omega), vireoref11_set.j0, if_neg (by decide), j1]
theorem setW_ok {z : CS} (h : z.ok) (a b : Nat) : (setW z a b).ok := by
  refine ⟨?_, ?_⟩ <;> unfold setW <;> dsimp only <;> split
  · exact putW_lt h.1 _ _ _
  · exact h.1
  · exact putW_lt h.2 _ _ _
  · exact h.2
/-- The state behind the first j bytes. -/
def stJ (z : CS) (a j v : Nat) : CS :=
  if a / 8 = 2048 then ⟨z.s, putW z.c ((8 * (a % 8) : Nat) : Int) ((8 * j : Nat) : Int) v, z.n⟩
  else if a / 8 = 6143 then ⟨z.s, z.c, putW z.n ((8 * (a % 8) : Nat) : Int) ((8 * j : Nat) : Int) v⟩
  else if a = 0 ∧ 0 < j then ⟨v.testBit 0, z.c, z.n⟩ else z
theorem stJ_zero (z : CS) (hz : z.ok) (a v : Nat) : stJ z a 0 v = z := by
  unfold stJ
  rw [putW_zero _ _ _ hz.1 (by omega), putW_zero _ _ _ hz.2 (by omega)]
  split
  · rfl
  · split
    · rfl
    · rw [if_neg (by omega)]
theorem stJ_ok {z : CS} (h : z.ok) (a j v : Nat) : (stJ z a j v).ok := by
  unfold stJ
  split
  · exact ⟨putW_lt h.1 _ _ _, h.2⟩
  · split
    · exact ⟨h.1, putW_lt h.2 _ _ _⟩
    · split
      · exact h
      · exact h
theorem stJ_next (z : CS) (hz : z.ok) (a v j : Nat) (k : Int) (hm : may a k = true) (hj : j < k.toNat) : setW (stJ z a j v) (a + j) (v / 256 ^ j % 256) = stJ z a (j + 1) v := by
  obtain ⟨hk, hal, hl⟩ := may_k hm
  unfold stJ
  by_cases h1 : a / 8 = 2048
  · have e1 : (a + j) / 8 = 2048 := by rcases hk with rfl | rfl <;> simp at hal hj <;> omega
    have e2 : (a + j) % 8 = a % 8 + j := by rcases hk with rfl | rfl <;> simp at hal hj <;> omega
    rw [if_pos h1, if_pos h1]
    unfold setW
    dsimp only
    rw [if_neg (by omega), if_pos e1, if_neg (by omega), e2, putW_next _ _ _ _ hz.1 (by omega)]
  · rw [if_neg h1, if_neg h1]
    have e0 : ¬ (a + j) / 8 = 2048 := by rcases hk with rfl | rfl <;> simp at hal hj <;> omega
    by_cases h2 : a / 8 = 6143
    · have e1 : (a + j) / 8 = 6143 := by rcases hk with rfl | rfl <;> simp at hal hj <;> omega
      have e2 : (a + j) % 8 = a % 8 + j := by rcases hk with rfl | rfl <;> simp at hal hj <;> omega
      rw [if_pos h2, if_pos h2]
      unfold setW
      dsimp only
      rw [if_neg (by omega), if_neg e0, if_pos e1, e2, putW_next _ _ _ _ hz.2 (by omega)]
    · have e1 : ¬ (a + j) / 8 = 6143 := by rcases hk with rfl | rfl <;> simp at hal hj <;> omega
      rw [if_neg h2, if_neg h2]
      unfold setW
      rw [if_neg e0, if_neg e1]
      by_cases h3 : a = 0
      · subst h3
        by_cases h4 : j = 0
        · subst h4
          have : decide (v / 256 ^ 0 % 256 % 2 = 1) = v.testBit 0 := by
            rw [Nat.testBit_zero]; exact decide_eq_decide.mpr (by rw [Nat.pow_zero, Nat.div_one]; omega)
          rw [this, if_pos rfl]
          simp
        · rw [if_neg (by omega), if_pos (by omega), if_pos (by omega)]
      · rw [if_neg (by omega), if_neg (by omega), if_neg (by omega)]
theorem stJ_all (z : CS) (a v : Nat) (k : Int) (hm : may a k = true) : stJ z a k.toNat v = stW z a k v := by
  have hk := may_k hm
  unfold stJ stW
  have e : ((8 * k.toNat : Nat) : Int) = 8 * k := by omega
  rw [e]
  split
  · rfl
  · split
    · rfl
    · by_cases h : a = 0
      · rw [if_pos (by omega), if_pos h]
      · rw [if_neg (by omega), if_neg h]
theorem ref_Store_l0 (z : CS) (hz : z.ok) (a : Nat) (k : Int) (hm : may a k = true) (v : Nat) : ∀ (m K i : Nat), i + m = k.toNat → 150 ≤ K →
    vireoref11_Store.l0 (m + K + 1) (a : Int) k (bys v k.toNat) (i : Int) (stJ z a i v).s ((stJ z a i v).c : Int) ((stJ z a i v).n : Int) = some ((stW z a k v).s, ((stW z a k v).c : Int), ((stW z a k v).n : Int), true)
  | 0, K, i, hi, hK => by
    have hk := may_k hm
    have hin : i = k.toNat := by omega
    subst hin
    rw [vireoref11_Store.l0, if_neg (by omega), stJ_all z a v k hm]
  | m + 1, K, i, hi, hK => by
    have hk := may_k hm
    have e1 : IntKind.u64.wrap ((a : Int) + IntKind.u64.wrap (i : Int)) = ((a + i : Nat) : Int) := by
      rw [u64_nat i (by omega), show (a : Int) + (i : Int) = ((a + i : Nat) : Int) by omega, u64_nat _ (by omega)]
    have e2 : wrap64 ((i : Int) + 1) = ((i + 1 : Nat) : Int) := by rw [w64_id _ (by omega) (by omega)]; omega
    rw [show m + 1 + K + 1 = (m + K + 1) + 1 by omega, vireoref11_Store.l0, if_pos (by omega), if_pos (by omega), if_pos (by rw [bys_length]; omega), e1, bys_rd v _ i (by omega), ref_set_is _ (stJ_ok hz _ _ _) _ (by omega) _ (Nat.mod_lt _ (by decide)) _ (by omega), Option.bind_some, stJ_next z hz a v i k hm (by omega), e2]
    exact ref_Store_l0 z hz a k hm v m K (i + 1) (by omega) hK
theorem ref_Store_is (z : CS) (hz : z.ok) (a : Nat) (ha : a < 18446744073709551616) (k : Int) (v : Nat) (hv : v < 18446744073709551616) (K : Nat) (hK : 5200 ≤ K) :
    vireoref11_Store.f K z.s (z.c : Int) (z.n : Int) (a : Int) k (v : Int) = some (if may a k = true then ((stW z a k v).s, ((stW z a k v).c : Int), ((stW z a k v).n : Int), true) else (z.s, (z.c : Int), (z.n : Int), false)) := by
  unfold vireoref11_Store.f
  rw [May_is a ha, Option.bind_some]
  cases hm : may a k with
  | false => rw [if_neg (show ¬ (false = true) by decide), if_neg (show ¬ (false = true) by decide)]
  | true =>
    have hk := may_k hm
    have eb : bcn k = k.toNat := by unfold bcn mn mx; split <;> split <;> omega
    rw [if_pos rfl, if_pos rfl, vireoref01_Bytes_is K (by omega) v hv k, Option.bind_some, eb]
    have := ref_Store_l0 z hz a k hm v k.toNat (K - k.toNat - 1) 0 (by omega) (by omega)
    rw [show k.toNat + (K - k.toNat - 1) + 1 = K by omega, stJ_zero z hz] at this
    exact this
end Go.Proofs.Ytpodgoceheoogaa.Pure
