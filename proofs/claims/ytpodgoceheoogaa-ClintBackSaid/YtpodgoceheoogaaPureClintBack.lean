/- ClintBack: the time and its mark are stored and loaded whole, and in halves, for every two words; no condition. -/
import Derived.Test.YtpodgoceheoogaaPFix8
import Derived.Test.YtpodgoceheoogaaS0
namespace Go.Proofs.Ytpodgoceheoogaa.PureClintBack
open Go.RowKit Go.Proofs.Ytpodgoceheoogaa.PFi Go.Proofs.YtpodgoceheoogaaW.PrintWords Go.Proofs.YtpodgoceheoogaaW.PrintLast
open Go.Proofs.Ytpodgoceheoogaa.Vw Go.Proofs.Ytpodgoceheoogaa.Pure
set_option linter.unusedVariables false
set_option linter.unusedSimpArgs false

theorem awake_is : vireolaw11_awake.f = some true := by decide +kernel
theorem begin_is : clint_Begin.f = some (false, ((18446744073709551615 : Nat) : Int), ((0 : Nat) : Int)) := rfl
theorem flag_is (b : Bool) : vireolaw11_flag.f b = some (if b then 1 else 0) := by cases b <;> rfl
theorem whole (x c : Nat) (hx : x < 18446744073709551616) (hc : c < 18446744073709551616) : putW x ((0 : Nat) : Int) ((64 : Nat) : Int) c = c := by
  apply eq64 (putW_lt hx _ _ _) hc
  intro i hi
  rw [tb_putW _ _ _ _ _ (by omega) (by omega), if_pos (by omega)]
  simp [hi]
theorem halves (x c : Nat) (hx : x < 18446744073709551616) (hc : c < 18446744073709551616) : putW (putW x ((0 : Nat) : Int) ((32 : Nat) : Int) c) ((32 : Nat) : Int) ((32 : Nat) : Int) (c / 4294967296) = c := by
  apply eq64 (putW_lt (putW_lt hx _ _ _) _ _ _) hc
  intro i hi
  rw [tb_putW _ _ _ _ _ (by omega) (by omega), tb_putW _ _ _ _ _ (by omega) (by omega), show (4294967296 : Nat) = 2 ^ 32 from rfl, Nat.testBit_div_two_pow]
  by_cases h : 32 ≤ i
  · rw [if_pos (by omega), show i - 32 + 32 = i by omega]; simp [hi]
  · rw [if_neg (by omega), if_pos (by omega)]; simp [hi]
theorem back_f (now cmp : Nat) (hn : now < 18446744073709551616) (hc : cmp < 18446744073709551616) : vireolaw11_ClintBack.f 200 (now : Int) (cmp : Int) = some true := by
  have z0 : CS.ok ⟨false, 18446744073709551615, 0⟩ := ⟨by decide, by decide⟩
  have s1 := Store_is ⟨false, 18446744073709551615, 0⟩ z0 49144 (by decide) 8 now hn
  have m1 : may 49144 8 = true := by decide
  have t1 : stW ⟨false, 18446744073709551615, 0⟩ 49144 8 now = ⟨false, 18446744073709551615, now⟩ := by
    unfold stW
    rw [if_neg (by decide), if_pos (by decide)]
    exact congrArg (fun z => CS.mk false 18446744073709551615 z) (whole _ _ (by decide) hn)
  rw [m1, if_pos rfl, t1] at s1
  have s2 := Store_is ⟨false, 18446744073709551615, now⟩ ⟨(by decide : 18446744073709551615 < 18446744073709551616), hn⟩ 16384 (by decide) 4 cmp hc
  have m2 : may 16384 4 = true := by decide
  have t2 : stW ⟨false, 18446744073709551615, now⟩ 16384 4 cmp = ⟨false, putW 18446744073709551615 ((0 : Nat) : Int) ((32 : Nat) : Int) cmp, now⟩ := by
    unfold stW
    rw [if_pos (by decide)]; rfl
  rw [m2, if_pos rfl, t2] at s2
  have hp := putW_lt (x := 18446744073709551615) (by decide) ((0 : Nat) : Int) ((32 : Nat) : Int) cmp
  have hh := halves 18446744073709551615 cmp (by decide) hc
  generalize putW 18446744073709551615 ((0 : Nat) : Int) ((32 : Nat) : Int) cmp = p at s2 hp hh
  have s3 := Store_is ⟨false, p, now⟩ ⟨hp, hn⟩ 16388 (by decide) 4 (cmp / 4294967296) (by omega)
  have m3 : may 16388 4 = true := by decide
  have t3 : stW ⟨false, p, now⟩ 16388 4 (cmp / 4294967296) = ⟨false, cmp, now⟩ := by
    unfold stW
    rw [if_pos (by decide)]
    exact congrArg (fun z => CS.mk false z now) hh
  rw [m3, if_pos rfl, t3] at s3
  have zf : CS.ok ⟨false, cmp, now⟩ := ⟨hc, hn⟩
  have l1 := Load_is ⟨false, cmp, now⟩ zf 16384 (by decide) 8
  have l2 := Load_is ⟨false, cmp, now⟩ zf 49144 (by decide) 4
  have l3 := Load_is ⟨false, cmp, now⟩ zf 49148 (by decide) 4
  have m4 : may 49144 4 = true := by decide
  have m5 : may 49148 4 = true := by decide
  have m6 : may 16384 8 = true := by decide
  have g1 : ldW ⟨false, cmp, now⟩ 16384 8 = cmp := by
    unfold ldW getW
    rw [if_pos (by decide), if_pos (by decide)]
    show cmp / 2 ^ 0 % 2 ^ 64 = cmp
    rw [Nat.pow_zero, Nat.div_one, two64]; omega
  have g2 : ldW ⟨false, cmp, now⟩ 49144 4 = now % 4294967296 := by
    unfold ldW getW
    rw [if_neg (by decide), if_pos (by decide), if_pos (by decide)]
    show now / 2 ^ 0 % 2 ^ 32 = _
    rw [Nat.pow_zero, Nat.div_one]
  have g3 : ldW ⟨false, cmp, now⟩ 49148 4 = now / 4294967296 := by
    unfold ldW getW
    rw [if_neg (by decide), if_pos (by decide), if_pos (by decide)]
    show now / 2 ^ 32 % 2 ^ 32 = _
    omega
  rw [m6, if_pos rfl, g1] at l1
  rw [m4, if_pos rfl, g2] at l2
  rw [m5, if_pos rfl, g3] at l3
  have el := Lines_is ⟨false, cmp, now⟩
  have hor : Go.bits .or .u64 ((now % 4294967296 : Nat) : Int) (IntKind.u64.wrap (((now / 4294967296 : Nat) : Int) * 4294967296)) = (now : Int) := by
    rw [show ((now / 4294967296 : Nat) : Int) * 4294967296 = ((now / 4294967296 * 4294967296 : Nat) : Int) by omega, u64_nat _ (by omega), or_nat _ _ (by omega) (by omega)]
    congr 1
    apply eq64 (or_lt (by omega) (by omega)) hn
    intro i hi
    rw [Nat.testBit_or, show (4294967296 : Nat) = 2 ^ 32 from rfl, Nat.testBit_mod_two_pow, Nat.testBit_mul_two_pow, Nat.testBit_div_two_pow]
    by_cases h : 32 ≤ i
    · have e : i - 32 + 32 = i := by omega
      have h2 : ¬ i < 32 := by omega
      simp [h, h2, e]
    · have h2 : i < 32 := by omega
      simp [h, h2]
  have hli : ((lines ⟨false, cmp, now⟩ : Nat) : Int) / 128 = if decide ((now : Int) ≥ (cmp : Int)) = true then 1 else 0 := by
    unfold lines
    by_cases h : cmp ≤ now
    · rw [decide_eq_true (by omega), if_neg Bool.false_ne_true, if_pos h, if_pos rfl]; rfl
    · rw [decide_eq_false (by omega), if_neg Bool.false_ne_true, if_neg h, if_neg Bool.false_ne_true]; rfl
  have ed : (cmp : Int) / 4294967296 = ((cmp / 4294967296 : Nat) : Int) := by omega
  unfold vireolaw11_ClintBack.f
  dsimp only at s1 s2 s3 l1 l2 l3 el
  rw [show ((49144 : Nat) : Int) = 49144 from rfl] at s1 l2
  rw [show ((16384 : Nat) : Int) = 16384 from rfl] at s2 l1
  rw [show ((16388 : Nat) : Int) = 16388 from rfl] at s3
  rw [show ((49148 : Nat) : Int) = 49148 from rfl] at l3
  rw [awake_is, Option.bind_some, if_pos rfl, begin_is, Option.bind_some]
  dsimp only
  rw [s1, Option.bind_some]
  dsimp only
  rw [if_pos rfl, s2, Option.bind_some]
  dsimp only
  rw [if_pos rfl, ed, s3, Option.bind_some]
  dsimp only
  rw [show (200 : Nat) = 199 + 1 from rfl, vireolaw11_ClintBack.j0, if_neg (by decide), l1, Option.bind_some, l2, Option.bind_some, l3, Option.bind_some]
  dsimp only
  rw [if_pos rfl, hor, if_pos rfl, el, Option.bind_some, flag_is, Option.bind_some, hli, beq_self_eq_true]
theorem ClintBack : vireolaw11_ClintBack.Pure := by
  intro a0 a1 h0 h1
  obtain ⟨now, rfl, hn⟩ := u64_of_wf h0
  obtain ⟨cmp, rfl, hc⟩ := u64_of_wf h1
  exact ⟨200, back_f now cmp hn hc⟩
end Go.Proofs.Ytpodgoceheoogaa.PureClintBack
namespace Go.Proofs.Ytpodgoceheoogaa.Pure
theorem ClintBack : PFi.vireolaw11_ClintBack.Pure := PureClintBack.ClintBack
end Go.Proofs.Ytpodgoceheoogaa.Pure
