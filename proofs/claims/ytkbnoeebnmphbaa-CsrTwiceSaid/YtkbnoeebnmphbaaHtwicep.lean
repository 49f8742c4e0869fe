/- Written twice a register is as once; what stands for it, written again, changes nothing: plain. -/
import Derived.Test.YtkbnoeebnmphbaaHbitlem
namespace Go.Proofs.Ytkbnoeebnmphbaa.H
open Go.RowKit Go.Proofs.YtkbnoeebnmphbaaW.PrintWords Go.Proofs.YtkbnoeebnmphbaaW.PrintLast Go.Proofs.Ytkbnoeebnmphbaa.PAl Go.Proofs.Ytkbnoeebnmphbaa.Pure Go.Proofs.Ytkbnoeebnmphbaa.Vw
set_option linter.unusedVariables false
set_option linter.unusedSimpArgs false
theorem set_set (s : VS) (j a b : Nat) : (s.set j a).set j b = s.set j b := VS.ext rfl (funext fun i => by
  show (if i = j then b else if i = j then a else s.r i) = if i = j then b else s.r i
  by_cases e : i = j <;> simp [e])
theorem set_at (s : VS) (j a : Nat) : (s.set j a).r j = a := by show (if j = j then a else s.r j) = a; rw [if_pos rfl]
theorem set_ne (s : VS) {i j : Nat} (h : i ≠ j) (a : Nat) : (s.set j a).r i = s.r i := by show (if i = j then a else s.r i) = s.r i; rw [if_neg h]
theorem tb_minus {x y i : Nat} (hy : U y) : (minus x y).testBit i = (x.testBit i && (decide (i < 64) && !y.testBit i)) := by
  unfold minus; rw [Nat.testBit_and, tb_not _ _ hy.lt]
/-- Mixing in what is there already. -/
theorem mix_same {x y k : Nat} (hx : U x) (hk : U k) (h : ∀ i, i < 64 → k.testBit i = true → y.testBit i = x.testBit i) : minus x k ||| (y &&& k) = x := by
  apply Nat.eq_of_testBit_eq
  intro i
  by_cases hi : i < 64
  · rw [Nat.testBit_or, tb_minus hk, Nat.testBit_and]
    cases hb : k.testBit i with
    | true => rw [h i hi hb]; simp
    | false => simp [hi]
  · have big : ∀ {z : Nat}, U z → z.testBit i = false := fun hz => Nat.testBit_lt_two_pow (Nat.lt_of_lt_of_le (n := _) (m := 2 ^ 64) (by have := hz.lt; rw [two64]; exact this) (Nat.pow_le_pow_right (by decide) (by omega)))
    rw [Nat.testBit_or, tb_minus hk, Nat.testBit_and, big hx, big hk]; simp
theorem mix_twice {x y k : Nat} (hx : U x) (hk : U k) : minus (minus x k ||| (y &&& k)) k ||| (y &&& k) = minus x k ||| (y &&& k) := by
  apply Nat.eq_of_testBit_eq
  intro i
  rw [Nat.testBit_or, Nat.testBit_or, tb_minus hk, Nat.testBit_or, tb_minus hk, Nat.testBit_and]
  cases x.testBit i <;> cases k.testBit i <;> cases y.testBit i <;> cases decide (i < 64) <;> rfl
theorem and_and (x k : Nat) : (x &&& k) &&& k = x &&& k := by rw [Nat.and_assoc, Nat.and_self]
theorem minus_minus {x k : Nat} (hk : U k) : minus (minus x k) k = minus x k := by
  unfold minus; rw [Nat.and_assoc, Nat.and_self]
theorem legal_twice (n : Int) (old x : Nat) : legalW n (legalW n old x) x = legalW n old x ∧ legalW n (legalW n old x) (legalW n old x) = legalW n old x := by
  by_cases c1 : n = 770
  · subst c1; exact ⟨rfl, and_and _ _⟩
  by_cases c2 : n = 771
  · subst c2; exact ⟨rfl, and_and _ _⟩
  by_cases c3 : n = 772
  · subst c3; exact ⟨rfl, and_and _ _⟩
  by_cases c4 : n = 773 ∨ n = 261
  · have e : ∀ o y, legalW n o y = vectorW o y := fun o y => by unfold legalW; rw [if_neg c1, if_neg c2, if_neg c3, if_pos c4]
    rw [e, e, e]
    unfold vectorW
    by_cases hb : x &&& 2 = 0
    · rw [if_pos hb, if_pos hb, if_pos hb]; exact ⟨rfl, rfl⟩
    · rw [if_neg hb, if_neg hb]; exact ⟨rfl, by split <;> rfl⟩
  by_cases c5 : n = 774 ∨ n = 262
  · have e : ∀ o y, legalW n o y = y &&& 7 := fun o y => by unfold legalW; rw [if_neg c1, if_neg c2, if_neg c3, if_neg c4, if_pos c5]
    rw [e, e, e]; exact ⟨rfl, and_and _ _⟩
  by_cases c6 : n = 833 ∨ n = 321
  · have e : ∀ o y, legalW n o y = minus y 3 := fun o y => by unfold legalW; rw [if_neg c1, if_neg c2, if_neg c3, if_neg c4, if_neg c5, if_pos c6]
    rw [e, e, e]; exact ⟨rfl, minus_minus U.num⟩
  by_cases c7 : n = 384
  · have e : ∀ o y, legalW n o y = if getW y 60 4 = 0 ∨ getW y 60 4 = 8 then y else o := fun o y => by unfold legalW; rw [if_neg c1, if_neg c2, if_neg c3, if_neg c4, if_neg c5, if_neg c6, if_pos c7]
    rw [e, e, e]
    by_cases hb : getW x 60 4 = 0 ∨ getW x 60 4 = 8
    · rw [if_pos hb, if_pos hb, if_pos hb]; exact ⟨rfl, rfl⟩
    · rw [if_neg hb, if_neg hb]; exact ⟨rfl, by split <;> rfl⟩
  · have e : ∀ o y, legalW n o y = y := fun o y => by unfold legalW; rw [if_neg c1, if_neg c2, if_neg c3, if_neg c4, if_neg c5, if_neg c6, if_neg c7]
    rw [e, e, e]; exact ⟨rfl, rfl⟩
theorem statusW_r (s : VS) (x k : Nat) : statusW s x k = s.set 1 (minus (s.r 1) (if getW x 11 2 = 2 then minus k 6144 else k) ||| (x &&& (if getW x 11 2 = 2 then minus k 6144 else k))) := by
  unfold statusW; split <;> rfl
theorem status_twice {s : VS} (hs : s.ok) (x : Nat) {k : Nat} (hk : U k) : statusW (statusW s x k) x k = statusW s x k := by
  have hq : U (if getW x 11 2 = 2 then minus k 6144 else k) := by split; exact hk.minus; exact hk
  rw [statusW_r, statusW_r, set_at, set_set, mix_twice (hs 1) hq]
theorem write_twice {s : VS} (hs : s.ok) (n : Int) {x : Nat} (hx : U x) : writeW (writeW s n x) n x = writeW s n x := by
  by_cases h1 : n = 768
  · subst h1; exact status_twice hs x U.num
  by_cases h2 : n = 256
  · subst h2; exact status_twice hs x U.num
  by_cases h3 : n = 836
  · subst h3; exact set_set _ _ _ _
  by_cases h4 : n = 324
  · subst h4
    have e : ∀ s : VS, writeW s 324 x = s.set 5 (minus (s.r 5) (s.r 3 &&& 2) ||| (x &&& (s.r 3 &&& 2))) := fun _ => rfl
    rw [e, e, set_ne s (i := 3) (j := 5) (by decide), set_at, set_set, mix_twice (hs 5) (hs 3).and]
  by_cases h5 : n = 260
  · subst h5
    have e : ∀ s : VS, writeW s 260 x = s.set 4 (minus (s.r 4) (s.r 3) ||| (x &&& s.r 3)) := fun _ => rfl
    rw [e, e, set_ne s (i := 3) (j := 4) (by decide), set_at, set_set, mix_twice (hs 4) (hs 3)]
  by_cases hc : n = 3072 ∨ n = 3073 ∨ n = 3074
  · have e : ∀ s : VS, writeW s n x = s := fun s => by unfold writeW; rw [if_neg h1, if_neg h2, if_neg h3, if_neg h4, if_neg h5, if_pos hc]
    rw [e, e]
  have hn : NotFive n := ⟨beq_no h1, beq_no h2, beq_no h3, beq_no h4, beq_no h5⟩
  rw [wr_row _ x hn hc, wr_row _ x hn hc]
  split
  · rfl
  · rw [set_at, set_set, (legal_twice n _ x).1]
/-- What stands for a register that was just written, written again. -/
theorem write_raw {s : VS} (hs : s.ok) (n : Int) {x : Nat} (hx : U x) : writeW (writeW s n x) n (rawW (writeW s n x) n) = writeW s n x := by
  have hok := writeW_ok hs n hx
  by_cases h1 : n = 768
  · subst h1
    generalize writeW s 768 x = z at hok
    have e : writeW z 768 (rawW z 768) = statusW z (z.r 1 ||| 42949672960) 8264106 := rfl
    rw [e, statusW_r, mix_same (hok 1) (by split; exact U.minus U.num; exact U.num), VS.set_self]
    intro i hi hb
    rw [Nat.testBit_or]
    have : (42949672960 : Nat).testBit i = false := by
      have hb2 : (8264106 : Nat).testBit i = true := by
        split at hb
        · rw [tb_minus U.num, Bool.and_eq_true] at hb; exact hb.1
        · exact hb
      have hz : (8264106 &&& 42949672960 : Nat).testBit i = false := by rw [show (8264106 &&& 42949672960 : Nat) = 0 from by decide]; exact Nat.zero_testBit i
      rw [Nat.testBit_and, hb2, Bool.true_and] at hz; exact hz
    rw [this, Bool.or_false]
  by_cases h2 : n = 256
  · subst h2
    generalize writeW s 256 x = z at hok
    have e : writeW z 256 (rawW z 256) = statusW z ((z.r 1 &&& 786722) ||| 8589934592) 786722 := rfl
    rw [e, statusW_r, mix_same (hok 1) (by split; exact U.minus U.num; exact U.num), VS.set_self]
    intro i hi hb
    have hb2 : (786722 : Nat).testBit i = true := by
      split at hb
      · rw [tb_minus U.num, Bool.and_eq_true] at hb; exact hb.1
      · exact hb
    have hz : (786722 &&& 8589934592 : Nat).testBit i = false := by rw [show (786722 &&& 8589934592 : Nat) = 0 from by decide]; exact Nat.zero_testBit i
    rw [Nat.testBit_and, hb2, Bool.true_and] at hz
    rw [Nat.testBit_or, Nat.testBit_and, hb2, hz]; simp
  by_cases h3 : n = 836
  · subst h3
    have e0 : writeW s 836 x = s.set 5 (x &&& 546) := rfl
    have e : ∀ z : VS, writeW z 836 (rawW z 836) = z.set 5 ((z.r 5 ||| minus (z.r 6) 546) &&& 546) := fun _ => rfl
    rw [e, e0, set_at, set_set]
    congr 1
    apply Nat.eq_of_testBit_eq
    intro i
    rw [Nat.testBit_and, Nat.testBit_or, Nat.testBit_and, tb_minus U.num]
    cases x.testBit i <;> cases (546 : Nat).testBit i <;> simp
  by_cases h4 : n = 324
  · subst h4
    generalize writeW s 324 x = z at hok
    have e : writeW z 324 (rawW z 324) = z.set 5 (minus (z.r 5) (z.r 3 &&& 2) ||| (((z.r 5 ||| minus (z.r 6) 546) &&& z.r 3) &&& (z.r 3 &&& 2))) := rfl
    rw [e, mix_same (hok 5) (hok 3).and, VS.set_self]
    intro i hi hb
    rw [Nat.testBit_and, Bool.and_eq_true] at hb
    have h546 : (546 : Nat).testBit i = true := by
      have hz : (minus 2 546).testBit i = false := by rw [show minus 2 546 = 0 from by decide]; exact Nat.zero_testBit i
      rw [tb_minus U.num, hb.2, decide_eq_true hi] at hz
      cases hq : (546 : Nat).testBit i with
      | true => rfl
      | false => rw [hq] at hz; exact absurd hz (by decide)
    rw [Nat.testBit_and, Nat.testBit_or, tb_minus U.num, hb.1, h546]; simp
  by_cases h5 : n = 260
  · subst h5
    generalize writeW s 260 x = z at hok
    have e : writeW z 260 (rawW z 260) = z.set 4 (minus (z.r 4) (z.r 3) ||| ((z.r 4 &&& z.r 3) &&& z.r 3)) := rfl
    rw [e, mix_same (hok 4) (hok 3), VS.set_self]
    intro i hi hb
    rw [Nat.testBit_and, hb, Bool.and_true]
  by_cases hc : n = 3072 ∨ n = 3073 ∨ n = 3074
  · have e : ∀ (s : VS) x, writeW s n x = s := fun s x => by unfold writeW; rw [if_neg h1, if_neg h2, if_neg h3, if_neg h4, if_neg h5, if_pos hc]
    rw [e, e]
  have hn : NotFive n := ⟨beq_no h1, beq_no h2, beq_no h3, beq_no h4, beq_no h5⟩
  by_cases hp : placeW n = 0
  · rw [wr_row _ _ hn hc, if_pos hp, wr_row _ _ hn hc, if_pos hp]
  · have h6 : n ≠ 769 := by rintro rfl; exact hp (by decide)
    have er : ∀ z : VS, rawW z n = z.r (placeW n) := fun z => by
      unfold rawW readW; rw [if_neg h3, if_neg h4, if_neg h1, if_neg h2, if_neg h6, if_neg h3, if_neg h4, if_neg h5, if_neg hp]
    rw [er, wr_row _ _ hn hc, if_neg hp, wr_row _ _ hn hc, if_neg hp, set_at, set_set, (legal_twice n _ x).2]
end Go.Proofs.Ytkbnoeebnmphbaa.H
