import Derived.Test.YtlhdildnekllhaaLf
import Derived.OpenShut
import Derived.Laws.BitsAllLaws
import Derived.Test.YtlhdildnekllhaaVw
import Derived.Test.YtlhdildnekllhaaS0
namespace Go.Proofs.Ytlhdildnekllhaa.Pure
open Go.RowKit Go.Proofs.Ytlhdildnekllhaa.PAl Go.Proofs.YtlhdildnekllhaaW.PrintWords Go.Proofs.YtlhdildnekllhaaW.PrintLast
open Go.Proofs.Ytlhdildnekllhaa.Vw
set_option linter.unusedVariables false
set_option linter.unusedSimpArgs false

def bwW (a b : Nat) (how : Int) : Nat := if how = 0 then a &&& b else if how = 1 then a ||| b else a ^^^ b
theorem bwW_lt (a b : Nat) (how : Int) (ha : a < 18446744073709551616) (hb : b < 18446744073709551616) : bwW a b how < 18446744073709551616 := by
  unfold bwW
  split
  · exact and_lt ha
  · split
    · exact or_lt ha hb
    · exact xor_lt ha hb
theorem bitwise_l (a b : Nat) (ha : a < 18446744073709551616) (hb : b < 18446744073709551616) (how : Int) (d : Nat) : ∀ (k i : Nat), i + d = 64 → d + 66 ≤ k →
    vireoref05_bitwise.l0 k how (bl a.testBit 64) (bl b.testBit 64) (bl (bwW a b how).testBit i) (i : Int) = some ((bwW a b how : Nat) : Int) := by
  induction d with
  | zero =>
    intro k i hi hk
    obtain ⟨k, rfl⟩ : ∃ m, k = m + 1 := ⟨k - 1, by omega⟩
    obtain rfl : i = 64 := by omega
    simp only [vireoref05_bitwise.l0]
    rw [if_neg (by omega), vireoref01_Word_is _ 64 (by omega) k (by omega), Option.bind_some, ob64 (bwW_lt a b how ha hb)]
  | succ d ih =>
    intro k i hi hk
    obtain ⟨k, rfl⟩ : ∃ m, k = m + 1 := ⟨k - 1, by omega⟩
    simp only [vireoref05_bitwise.l0]
    have e3 : wrap64 ((i : Int) + 1) = ((i + 1 : Nat) : Int) := w64_nat (i + 1) (by omega)
    have hn2 := ih k (i + 1) (by omega) (by omega)
    rw [bl_succ _ i] at hn2
    have hlen : (bl (bwW a b how).testBit i).length < 17592186044416 := by rw [bl_length]; omega
    rw [if_pos (by omega), if_pos (by omega), if_pos (by rw [bl_length]; omega), if_pos (by rw [bl_length]; omega), if_pos hlen, if_pos hlen, if_pos hlen, e3, rd_bl _ 64 i (by omega), rd_bl _ 64 i (by omega)]
    have hb3 : (bwW a b how).testBit i = if how = 0 then (a.testBit i && b.testBit i) else if how = 1 then (a.testBit i || b.testBit i) else (a.testBit i ^^ b.testBit i) := by
      unfold bwW
      split
      · rw [Nat.testBit_and]
      · split
        · rw [Nat.testBit_or]
        · rw [Nat.testBit_xor]
    rw [hb3] at hn2
    by_cases c0 : how = 0
    · rw [if_pos c0] at hn2 ⊢
      rw [show wrap64 (Int.tdiv (wrap64 (bi (a.testBit i) + bi (b.testBit i))) 2) = bi (a.testBit i && b.testBit i) by cases a.testBit i <;> cases b.testBit i <;> decide +kernel]
      exact hn2
    · rw [if_neg c0] at hn2 ⊢
      by_cases c1 : how = 1
      · rw [if_pos c1] at hn2 ⊢
        rw [show mn (wrap64 (bi (a.testBit i) + bi (b.testBit i))) 1 = bi (a.testBit i || b.testBit i) by cases a.testBit i <;> cases b.testBit i <;> decide +kernel]
        exact hn2
      · rw [if_neg c1] at hn2 ⊢
        rw [show Int.tmod (wrap64 (bi (a.testBit i) + bi (b.testBit i))) 2 = bi (a.testBit i ^^ b.testBit i) by cases a.testBit i <;> cases b.testBit i <;> decide +kernel]
        exact hn2
theorem vireoref05_bitwise_is (a b : Nat) (ha : a < 18446744073709551616) (hb : b < 18446744073709551616) (how : Int) (k : Nat) (hk : 140 ≤ k) : vireoref05_bitwise.f k (a : Int) (b : Int) how = some ((bwW a b how : Nat) : Int) := by
  unfold vireoref05_bitwise.f
  rw [vireoref01_Bits_is a ha k (by omega), Option.bind_some, vireoref01_Bits_is b hb k (by omega), Option.bind_some]
  exact bitwise_l a b ha hb how 64 k 0 (by omega) (by omega)
end Go.Proofs.Ytlhdildnekllhaa.Pure
