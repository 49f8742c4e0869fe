/- One bit of a word set and cleared, and the mode that it keeps: plain. -/
import Derived.Test.YtkbnoeebnmphbaaHplays
namespace Go.Proofs.Ytkbnoeebnmphbaa.H
open Go.RowKit Go.Proofs.YtkbnoeebnmphbaaW.PrintWords Go.Proofs.YtkbnoeebnmphbaaW.PrintLast Go.Proofs.Ytkbnoeebnmphbaa.PAl Go.Proofs.Ytkbnoeebnmphbaa.Pure Go.Proofs.Ytkbnoeebnmphbaa.Vw
set_option linter.unusedVariables false
set_option linter.unusedSimpArgs false
theorem tbP (x a n v i : Nat) (ha : a ≤ 63) (hn : n ≤ 64) : (putW x (a : Int) (n : Int) v).testBit i = (decide (i < 64) && if a ≤ i ∧ i < a + n then v.testBit (i - a) else x.testBit i) := by
  unfold putW
  have ec : cnt (n : Int) = n := by unfold cnt; omega
  rw [if_pos (by omega), testBit_ob, Int.toNat_natCast, ec]
theorem put_one {x : Nat} (hx : U x) {B : Nat} (hB : B ≤ 63) : putW x (B : Int) 1 1 = x ||| 2 ^ B := by
  apply eq64 (putW_lt hx.lt _ _ _) (or_lt hx.lt (U.pow hB).lt)
  intro i hi
  have := tbP x B 1 1 i hB (by decide)
  rw [show ((1 : Nat) : Int) = 1 from rfl] at this
  rw [this, Nat.testBit_or, Nat.testBit_two_pow]
  by_cases h : B = i
  · subst h
    rw [if_pos ⟨Nat.le_refl _, by omega⟩, Nat.sub_self]; simp [hi]
  · rw [if_neg (by omega)]; simp [hi, h]
theorem put_nought {x : Nat} (hx : U x) {B : Nat} (hB : B ≤ 63) : putW x (B : Int) 1 0 = minus x (2 ^ B) := by
  apply eq64 (putW_lt hx.lt _ _ _) (hx.minus).lt
  intro i hi
  have := tbP x B 1 0 i hB (by decide)
  rw [show ((1 : Nat) : Int) = 1 from rfl] at this
  unfold minus
  rw [this, Nat.testBit_and, tb_not _ _ (U.pow hB).lt, Nat.testBit_two_pow]
  by_cases h : B = i
  · subst h
    rw [if_pos ⟨Nat.le_refl _, by omega⟩]; simp
  · rw [if_neg (by omega)]; simp [hi, h]
theorem minus_or {x : Nat} (hx : U x) {B : Nat} (hB : B ≤ 63) : minus (x ||| 2 ^ B) (2 ^ B) = minus x (2 ^ B) := by
  apply eq64 (hx.or (U.pow hB)).minus.lt hx.minus.lt
  intro i hi
  unfold minus
  rw [Nat.testBit_and, Nat.testBit_and, Nat.testBit_or, tb_not _ _ (U.pow hB).lt, Nat.testBit_two_pow]
  by_cases h : B = i
  · simp [h]
  · simp [h]
theorem bit_or {x B : Nat} (hB : B ≤ 63) : bitW (x ||| 2 ^ B) (B : Int) = true := by
  unfold bitW
  rw [Int.toNat_natCast, Nat.testBit_or, Nat.testBit_two_pow, decide_eq_true (by omega)]; simp
theorem bit_minus {x B : Nat} (hB : B ≤ 63) : bitW (minus x (2 ^ B)) (B : Int) = false := by
  unfold bitW minus
  rw [Int.toNat_natCast, Nat.testBit_and, tb_not _ _ (U.pow hB).lt, Nat.testBit_two_pow]; simp
theorem get_put_mode {x K : Nat} (hx : U x) (hK : K ≤ 3) : getW (putW x 11 2 K) 11 2 = K := by
  have h1 : getW (putW x 11 2 K) 11 2 < 2 ^ 2 := by
    unfold getW; rw [if_pos (by decide)]; exact Nat.mod_lt _ (by decide)
  apply eq_of_bits (n := 2) h1 (by omega)
  intro i hi
  have h2 := tb_getW (putW x 11 2 K) 11 2 i
  have h3 := tbP x 11 2 K (11 + i) (by decide) (by decide)
  rw [show ((11 : Nat) : Int) = 11 from rfl, show ((2 : Nat) : Int) = 2 from rfl] at h3
  rw [h2, show (11 : Int).toNat = 11 from rfl, h3, if_pos (by omega), show 11 + i - 11 = i by omega, decide_eq_true (show (0 : Int) ≤ 11 ∧ (11 : Int) ≤ 63 by decide), decide_eq_true (show i < cnt 2 by show i < 2; exact hi), decide_eq_true (show 11 + i < 64 by omega)]
  simp
end Go.Proofs.Ytkbnoeebnmphbaa.H
