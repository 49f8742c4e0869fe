-- Laid by this seat's own program (wip/tools/pp.sh, a turned copy of the kit's print). Lean checks it.
import Derived.Test.YtkcbcehdpcjmhaaPAllx0
import Derived.Test.YtkcbcehdpcjmhaaPAllx3
import Derived.Test.YtkcbcehdpcjmhaaPAllx4
namespace Go.Proofs.Ytkcbcehdpcjmhaa.PAll
open Go.RowKit Go.Proofs.YtkcbcehdpcjmhaaW.PrintWords Go.Proofs.YtkcbcehdpcjmhaaW.PrintLast Go.Proofs.YtkcbcehdpcjmhaaW.PrintMore
attribute [local go_sem] max2_int min2_int max_two min_two max_three min_three max_four min_four   -- for this text's walks alone
set_option linter.unusedVariables false
set_option linter.unusedSimpArgs false

/-! ### vireoref05_Do: function 27 -/
mutual
def vireoref05_Do.j0 : Nat → Int → Int → Int → Int → Int → Bool → Option (Int × Bool)
  | 0, _, _, _, _, _, _ => none
  | k + 1, x1, x2, x8, x9, x16, x17 => if x17 = true then (some (IntKind.u64.wrap (x1 + x2), true)) else (if x16 = 32 then (some (IntKind.u64.wrap ((IntKind.u64.wrap (x1 + (Go.bits .xor .u64 18446744073709551615 x2))) + 1), true)) else (if x16 = 33 then (vireoref05_Do.j1 k x1 x2 x8 x9 x16 (x16 == 33)) else (vireoref05_Do.j1 k x1 x2 x8 x9 x16 (x16 == 28))))
def vireoref05_Do.j1 : Nat → Int → Int → Int → Int → Int → Bool → Option (Int × Bool)
  | 0, _, _, _, _, _, _ => none
  | k + 1, x1, x2, x8, x9, x16, x30 => if x30 = true then ((vireoref05_left.f k x1 x8 64).bind fun t202 => (some (t202, true))) else (if x16 = 37 then (vireoref05_Do.j2 k x1 x2 x8 x9 x16 (x16 == 37)) else (vireoref05_Do.j2 k x1 x2 x8 x9 x16 (x16 == 29)))
def vireoref05_Do.j2 : Nat → Int → Int → Int → Int → Int → Bool → Option (Int × Bool)
  | 0, _, _, _, _, _, _ => none
  | k + 1, x1, x2, x8, x9, x16, x36 => if x36 = true then ((vireoref05_right.f k x1 x8 64 false).bind fun t203 => (some (t203, true))) else (if x16 = 38 then (vireoref05_Do.j3 k x1 x2 x8 x9 x16 (x16 == 38)) else (vireoref05_Do.j3 k x1 x2 x8 x9 x16 (x16 == 30)))
def vireoref05_Do.j3 : Nat → Int → Int → Int → Int → Int → Bool → Option (Int × Bool)
  | 0, _, _, _, _, _, _ => none
  | k + 1, x1, x2, x8, x9, x16, x42 => if x42 = true then ((vireoref05_right.f k x1 x8 64 true).bind fun t204 => (some (t204, true))) else (if x16 = 34 then (vireoref05_Do.j4 k x1 x2 x9 x16 (x16 == 34)) else (vireoref05_Do.j4 k x1 x2 x9 x16 (x16 == 23)))
def vireoref05_Do.j4 : Nat → Int → Int → Int → Int → Bool → Option (Int × Bool)
  | 0, _, _, _, _, _ => none
  | k + 1, x1, x2, x9, x16, x48 => if x48 = true then ((vireoref05_Less.f k x1 x2).bind fun t205 => ((vireoref05_flag.f t205).bind fun t206 => (some (t206, true)))) else (if x16 = 35 then (vireoref05_Do.j5 k x1 x2 x9 x16 (x16 == 35)) else (vireoref05_Do.j5 k x1 x2 x9 x16 (x16 == 24)))
def vireoref05_Do.j5 : Nat → Int → Int → Int → Int → Bool → Option (Int × Bool)
  | 0, _, _, _, _, _ => none
  | k + 1, x1, x2, x9, x16, x55 => if x55 = true then ((vireoref05_flag.f (decide (x1 < x2))).bind fun t207 => (some (t207, true))) else (if x16 = 40 then (vireoref05_Do.j6 k x1 x2 x9 x16 (x16 == 40)) else (vireoref05_Do.j6 k x1 x2 x9 x16 (x16 == 27)))
def vireoref05_Do.j6 : Nat → Int → Int → Int → Int → Bool → Option (Int × Bool)
  | 0, _, _, _, _, _ => none
  | k + 1, x1, x2, x9, x16, x62 => if x62 = true then ((vireoref05_bitwise.f k x1 x2 0).bind fun t208 => (some (t208, true))) else (if x16 = 39 then (vireoref05_Do.j7 k x1 x2 x9 x16 (x16 == 39)) else (vireoref05_Do.j7 k x1 x2 x9 x16 (x16 == 26)))
def vireoref05_Do.j7 : Nat → Int → Int → Int → Int → Bool → Option (Int × Bool)
  | 0, _, _, _, _, _ => none
  | k + 1, x1, x2, x9, x16, x68 => if x68 = true then ((vireoref05_bitwise.f k x1 x2 1).bind fun t209 => (some (t209, true))) else (if x16 = 36 then (vireoref05_Do.j8 k x1 x2 x9 x16 (x16 == 36)) else (vireoref05_Do.j8 k x1 x2 x9 x16 (x16 == 25)))
def vireoref05_Do.j8 : Nat → Int → Int → Int → Int → Bool → Option (Int × Bool)
  | 0, _, _, _, _, _ => none
  | k + 1, x1, x2, x9, x16, x74 => if x74 = true then ((vireoref05_bitwise.f k x1 x2 2).bind fun t210 => (some (t210, true))) else (if x16 = 45 then (vireoref05_Do.j9 k x1 x2 x9 x16 (x16 == 45)) else (vireoref05_Do.j9 k x1 x2 x9 x16 (x16 == 41)))
def vireoref05_Do.j9 : Nat → Int → Int → Int → Int → Bool → Option (Int × Bool)
  | 0, _, _, _, _, _ => none
  | k + 1, x1, x2, x9, x16, x80 => if x80 = true then ((vireoref01_Sext.f k (Int.tmod (IntKind.u64.wrap ((Int.tmod x1 4294967296) + (Int.tmod x2 4294967296))) 4294967296) 32).bind fun t211 => (some (t211, true))) else (if x16 = 46 then ((vireoref01_Sext.f k (Int.tmod (IntKind.u64.wrap ((IntKind.u64.wrap ((Int.tmod x1 4294967296) + 4294967296)) - (Int.tmod x2 4294967296))) 4294967296) 32).bind fun t212 => (some (t212, true))) else (if x16 = 47 then (vireoref05_Do.j10 k x1 x9 x16 (x16 == 47)) else (vireoref05_Do.j10 k x1 x9 x16 (x16 == 42))))
def vireoref05_Do.j10 : Nat → Int → Int → Int → Bool → Option (Int × Bool)
  | 0, _, _, _, _ => none
  | k + 1, x1, x9, x16, x100 => if x100 = true then ((vireoref05_left.f k x1 x9 32).bind fun t213 => ((vireoref01_Sext.f k t213 32).bind fun t214 => (some (t214, true)))) else (if x16 = 48 then (vireoref05_Do.j11 k x1 x9 x16 (x16 == 48)) else (vireoref05_Do.j11 k x1 x9 x16 (x16 == 43)))
def vireoref05_Do.j11 : Nat → Int → Int → Int → Bool → Option (Int × Bool)
  | 0, _, _, _, _ => none
  | k + 1, x1, x9, x16, x107 => if x107 = true then ((vireoref05_right.f k x1 x9 32 false).bind fun t215 => ((vireoref01_Sext.f k t215 32).bind fun t216 => (some (t216, true)))) else (if x16 = 49 then (vireoref05_Do.j12 k x1 x9 (x16 == 49)) else (vireoref05_Do.j12 k x1 x9 (x16 == 44)))
def vireoref05_Do.j12 : Nat → Int → Int → Bool → Option (Int × Bool)
  | 0, _, _, _ => none
  | k + 1, x1, x9, x114 => if x114 = true then ((vireoref05_right.f k x1 x9 32 true).bind fun t217 => ((vireoref01_Sext.f k t217 32).bind fun t218 => (some (t218, true)))) else (some (0, false))
end
def vireoref05_Do.f (k : Nat) (a0 : Int) (a1 : Int) (a2 : Int) : Option (Int × Bool) := if a0 = 31 then (vireoref05_Do.j0 k a1 a2 (wrap64 (Int.tmod a2 64)) (wrap64 (Int.tmod a2 32)) a0 (a0 == 31)) else (vireoref05_Do.j0 k a1 a2 (wrap64 (Int.tmod a2 64)) (wrap64 (Int.tmod a2 32)) a0 (a0 == 22))
theorem vireoref05_Do.mono_l : ∀ k, (∀ y0 y1 y2 y3 y4 y5, LeO (vireoref05_Do.j0 k y0 y1 y2 y3 y4 y5) (vireoref05_Do.j0 (k + 1) y0 y1 y2 y3 y4 y5)) ∧ (∀ y0 y1 y2 y3 y4 y5, LeO (vireoref05_Do.j1 k y0 y1 y2 y3 y4 y5) (vireoref05_Do.j1 (k + 1) y0 y1 y2 y3 y4 y5)) ∧ (∀ y0 y1 y2 y3 y4 y5, LeO (vireoref05_Do.j2 k y0 y1 y2 y3 y4 y5) (vireoref05_Do.j2 (k + 1) y0 y1 y2 y3 y4 y5)) ∧ (∀ y0 y1 y2 y3 y4 y5, LeO (vireoref05_Do.j3 k y0 y1 y2 y3 y4 y5) (vireoref05_Do.j3 (k + 1) y0 y1 y2 y3 y4 y5)) ∧ (∀ y0 y1 y2 y3 y4, LeO (vireoref05_Do.j4 k y0 y1 y2 y3 y4) (vireoref05_Do.j4 (k + 1) y0 y1 y2 y3 y4)) ∧ (∀ y0 y1 y2 y3 y4, LeO (vireoref05_Do.j5 k y0 y1 y2 y3 y4) (vireoref05_Do.j5 (k + 1) y0 y1 y2 y3 y4)) ∧ (∀ y0 y1 y2 y3 y4, LeO (vireoref05_Do.j6 k y0 y1 y2 y3 y4) (vireoref05_Do.j6 (k + 1) y0 y1 y2 y3 y4)) ∧ (∀ y0 y1 y2 y3 y4, LeO (vireoref05_Do.j7 k y0 y1 y2 y3 y4) (vireoref05_Do.j7 (k + 1) y0 y1 y2 y3 y4)) ∧ (∀ y0 y1 y2 y3 y4, LeO (vireoref05_Do.j8 k y0 y1 y2 y3 y4) (vireoref05_Do.j8 (k + 1) y0 y1 y2 y3 y4)) ∧ (∀ y0 y1 y2 y3 y4, LeO (vireoref05_Do.j9 k y0 y1 y2 y3 y4) (vireoref05_Do.j9 (k + 1) y0 y1 y2 y3 y4)) ∧ (∀ y0 y1 y2 y3, LeO (vireoref05_Do.j10 k y0 y1 y2 y3) (vireoref05_Do.j10 (k + 1) y0 y1 y2 y3)) ∧ (∀ y0 y1 y2 y3, LeO (vireoref05_Do.j11 k y0 y1 y2 y3) (vireoref05_Do.j11 (k + 1) y0 y1 y2 y3)) ∧ (∀ y0 y1 y2, LeO (vireoref05_Do.j12 k y0 y1 y2) (vireoref05_Do.j12 (k + 1) y0 y1 y2))
  | 0 => ⟨fun _ _ _ _ _ _ r h => by simp [vireoref05_Do.j0] at h, fun _ _ _ _ _ _ r h => by simp [vireoref05_Do.j1] at h, fun _ _ _ _ _ _ r h => by simp [vireoref05_Do.j2] at h, fun _ _ _ _ _ _ r h => by simp [vireoref05_Do.j3] at h, fun _ _ _ _ _ r h => by simp [vireoref05_Do.j4] at h, fun _ _ _ _ _ r h => by simp [vireoref05_Do.j5] at h, fun _ _ _ _ _ r h => by simp [vireoref05_Do.j6] at h, fun _ _ _ _ _ r h => by simp [vireoref05_Do.j7] at h, fun _ _ _ _ _ r h => by simp [vireoref05_Do.j8] at h, fun _ _ _ _ _ r h => by simp [vireoref05_Do.j9] at h, fun _ _ _ _ r h => by simp [vireoref05_Do.j10] at h, fun _ _ _ _ r h => by simp [vireoref05_Do.j11] at h, fun _ _ _ r h => by simp [vireoref05_Do.j12] at h⟩
  | k + 1 => by
    obtain ⟨ih0, ih1, ih2, ih3, ih4, ih5, ih6, ih7, ih8, ih9, ih10, ih11, ih12⟩ := vireoref05_Do.mono_l k
    refine ⟨?_, ?_, ?_, ?_, ?_, ?_, ?_, ?_, ?_, ?_, ?_, ?_, ?_⟩
    · intro y0 y1 y2 y3 y4 y5
      unfold vireoref05_Do.j0
      repeat' first
      | (with_reducible exact ih0 _ _ _ _ _ _)
      | (with_reducible exact ih1 _ _ _ _ _ _)
      | (with_reducible exact ih2 _ _ _ _ _ _)
      | (with_reducible exact ih3 _ _ _ _ _ _)
      | (with_reducible exact ih4 _ _ _ _ _)
      | (with_reducible exact ih5 _ _ _ _ _)
      | (with_reducible exact ih6 _ _ _ _ _)
      | (with_reducible exact ih7 _ _ _ _ _)
      | (with_reducible exact ih8 _ _ _ _ _)
      | (with_reducible exact ih9 _ _ _ _ _)
      | (with_reducible exact ih10 _ _ _ _)
      | (with_reducible exact ih11 _ _ _ _)
      | (with_reducible exact ih12 _ _ _)
      | (with_reducible exact vireoref01_Sext.mono _ _ _)
      | (with_reducible exact vireoref05_Less.mono _ _ _)
      | (with_reducible exact vireoref05_bitwise.mono _ _ _ _)
      | (with_reducible exact vireoref05_left.mono _ _ _ _)
      | (with_reducible exact vireoref05_right.mono _ _ _ _ _)
      | (with_reducible exact LeO.refl _)
      | (with_reducible exact LeO.none _)
      | (with_reducible refine LeO.ite ?_ ?_)
      | (with_reducible refine LeO.bind ?_ (fun _ => ?_))
      | exact ih0 _ _ _ _ _ _
      | exact ih1 _ _ _ _ _ _
      | exact ih2 _ _ _ _ _ _
      | exact ih3 _ _ _ _ _ _
      | exact ih4 _ _ _ _ _
      | exact ih5 _ _ _ _ _
      | exact ih6 _ _ _ _ _
      | exact ih7 _ _ _ _ _
      | exact ih8 _ _ _ _ _
      | exact ih9 _ _ _ _ _
      | exact ih10 _ _ _ _
      | exact ih11 _ _ _ _
      | exact ih12 _ _ _
      | exact vireoref01_Sext.mono _ _ _
      | exact vireoref05_Less.mono _ _ _
      | exact vireoref05_bitwise.mono _ _ _ _
      | exact vireoref05_left.mono _ _ _ _
      | exact vireoref05_right.mono _ _ _ _ _
      | exact LeO.none _
      | refine LeO.ite ?_ ?_
      | refine LeO.bind ?_ (fun _ => ?_)
    · intro y0 y1 y2 y3 y4 y5
      unfold vireoref05_Do.j1
      repeat' first
      | (with_reducible exact ih0 _ _ _ _ _ _)
      | (with_reducible exact ih1 _ _ _ _ _ _)
      | (with_reducible exact ih2 _ _ _ _ _ _)
      | (with_reducible exact ih3 _ _ _ _ _ _)
      | (with_reducible exact ih4 _ _ _ _ _)
      | (with_reducible exact ih5 _ _ _ _ _)
      | (with_reducible exact ih6 _ _ _ _ _)
      | (with_reducible exact ih7 _ _ _ _ _)
      | (with_reducible exact ih8 _ _ _ _ _)
      | (with_reducible exact ih9 _ _ _ _ _)
      | (with_reducible exact ih10 _ _ _ _)
      | (with_reducible exact ih11 _ _ _ _)
      | (with_reducible exact ih12 _ _ _)
      | (with_reducible exact vireoref01_Sext.mono _ _ _)
      | (with_reducible exact vireoref05_Less.mono _ _ _)
      | (with_reducible exact vireoref05_bitwise.mono _ _ _ _)
      | (with_reducible exact vireoref05_left.mono _ _ _ _)
      | (with_reducible exact vireoref05_right.mono _ _ _ _ _)
      | (with_reducible exact LeO.refl _)
      | (with_reducible exact LeO.none _)
      | (with_reducible refine LeO.ite ?_ ?_)
      | (with_reducible refine LeO.bind ?_ (fun _ => ?_))
      | exact ih0 _ _ _ _ _ _
      | exact ih1 _ _ _ _ _ _
      | exact ih2 _ _ _ _ _ _
      | exact ih3 _ _ _ _ _ _
      | exact ih4 _ _ _ _ _
      | exact ih5 _ _ _ _ _
      | exact ih6 _ _ _ _ _
      | exact ih7 _ _ _ _ _
      | exact ih8 _ _ _ _ _
      | exact ih9 _ _ _ _ _
      | exact ih10 _ _ _ _
      | exact ih11 _ _ _ _
      | exact ih12 _ _ _
      | exact vireoref01_Sext.mono _ _ _
      | exact vireoref05_Less.mono _ _ _
      | exact vireoref05_bitwise.mono _ _ _ _
      | exact vireoref05_left.mono _ _ _ _
      | exact vireoref05_right.mono _ _ _ _ _
      | exact LeO.none _
      | refine LeO.ite ?_ ?_
      | refine LeO.bind ?_ (fun _ => ?_)
    · intro y0 y1 y2 y3 y4 y5
      unfold vireoref05_Do.j2
      repeat' first
      | (with_reducible exact ih0 _ _ _ _ _ _)
      | (with_reducible exact ih1 _ _ _ _ _ _)
      | (with_reducible exact ih2 _ _ _ _ _ _)
      | (with_reducible exact ih3 _ _ _ _ _ _)
      | (with_reducible exact ih4 _ _ _ _ _)
      | (with_reducible exact ih5 _ _ _ _ _)
      | (with_reducible exact ih6 _ _ _ _ _)
      | (with_reducible exact ih7 _ _ _ _ _)
      | (with_reducible exact ih8 _ _ _ _ _)
      | (with_reducible exact ih9 _ _ _ _ _)
      | (with_reducible exact ih10 _ _ _ _)
      | (with_reducible exact ih11 _ _ _ _)
      | (with_reducible exact ih12 _ _ _)
      | (with_reducible exact vireoref01_Sext.mono _ _ _)
      | (with_reducible exact vireoref05_Less.mono _ _ _)
      | (with_reducible exact vireoref05_bitwise.mono _ _ _ _)
      | (with_reducible exact vireoref05_left.mono _ _ _ _)
      | (with_reducible exact vireoref05_right.mono _ _ _ _ _)
      | (with_reducible exact LeO.refl _)
      | (with_reducible exact LeO.none _)
      | (with_reducible refine LeO.ite ?_ ?_)
      | (with_reducible refine LeO.bind ?_ (fun _ => ?_))
      | exact ih0 _ _ _ _ _ _
      | exact ih1 _ _ _ _ _ _
      | exact ih2 _ _ _ _ _ _
      | exact ih3 _ _ _ _ _ _
      | exact ih4 _ _ _ _ _
      | exact ih5 _ _ _ _ _
      | exact ih6 _ _ _ _ _
      | exact ih7 _ _ _ _ _
      | exact ih8 _ _ _ _ _
      | exact ih9 _ _ _ _ _
      | exact ih10 _ _ _ _
      | exact ih11 _ _ _ _
      | exact ih12 _ _ _
      | exact vireoref01_Sext.mono _ _ _
      | exact vireoref05_Less.mono _ _ _
      | exact vireoref05_bitwise.mono _ _ _ _
      | exact vireoref05_left.mono _ _ _ _
      | exact vireoref05_right.mono _ _ _ _ _
      | exact LeO.none _
      | refine LeO.ite ?_ ?_
      | refine LeO.bind ?_ (fun _ => ?_)
    · intro y0 y1 y2 y3 y4 y5
      unfold vireoref05_Do.j3
      repeat' first
      | (with_reducible exact ih0 _ _ _ _ _ _)
      | (with_reducible exact ih1 _ _ _ _ _ _)
      | (with_reducible exact ih2 _ _ _ _ _ _)
      | (with_reducible exact ih3 _ _ _ _ _ _)
      | (with_reducible exact ih4 _ _ _ _ _)
      | (with_reducible exact ih5 _ _ _ _ _)
      | (with_reducible exact ih6 _ _ _ _ _)
      | (with_reducible exact ih7 _ _ _ _ _)
      | (with_reducible exact ih8 _ _ _ _ _)
      | (with_reducible exact ih9 _ _ _ _ _)
      | (with_reducible exact ih10 _ _ _ _)
      | (with_reducible exact ih11 _ _ _ _)
      | (with_reducible exact ih12 _ _ _)
      | (with_reducible exact vireoref01_Sext.mono _ _ _)
      | (with_reducible exact vireoref05_Less.mono _ _ _)
      | (with_reducible exact vireoref05_bitwise.mono _ _ _ _)
      | (with_reducible exact vireoref05_left.mono _ _ _ _)
      | (with_reducible exact vireoref05_right.mono _ _ _ _ _)
      | (with_reducible exact LeO.refl _)
      | (with_reducible exact LeO.none _)
      | (with_reducible refine LeO.ite ?_ ?_)
      | (with_reducible refine LeO.bind ?_ (fun _ => ?_))
      | exact ih0 _ _ _ _ _ _
      | exact ih1 _ _ _ _ _ _
      | exact ih2 _ _ _ _ _ _
      | exact ih3 _ _ _ _ _ _
      | exact ih4 _ _ _ _ _
      | exact ih5 _ _ _ _ _
      | exact ih6 _ _ _ _ _
      | exact ih7 _ _ _ _ _
      | exact ih8 _ _ _ _ _
      | exact ih9 _ _ _ _ _
      | exact ih10 _ _ _ _
      | exact ih11 _ _ _ _
      | exact ih12 _ _ _
      | exact vireoref01_Sext.mono _ _ _
      | exact vireoref05_Less.mono _ _ _
      | exact vireoref05_bitwise.mono _ _ _ _
      | exact vireoref05_left.mono _ _ _ _
      | exact vireoref05_right.mono _ _ _ _ _
      | exact LeO.none _
      | refine LeO.ite ?_ ?_
      | refine LeO.bind ?_ (fun _ => ?_)
    · intro y0 y1 y2 y3 y4
      unfold vireoref05_Do.j4
      repeat' first
      | (with_reducible exact ih0 _ _ _ _ _ _)
      | (with_reducible exact ih1 _ _ _ _ _ _)
      | (with_reducible exact ih2 _ _ _ _ _ _)
      | (with_reducible exact ih3 _ _ _ _ _ _)
      | (with_reducible exact ih4 _ _ _ _ _)
      | (with_reducible exact ih5 _ _ _ _ _)
      | (with_reducible exact ih6 _ _ _ _ _)
      | (with_reducible exact ih7 _ _ _ _ _)
      | (with_reducible exact ih8 _ _ _ _ _)
      | (with_reducible exact ih9 _ _ _ _ _)
      | (with_reducible exact ih10 _ _ _ _)
      | (with_reducible exact ih11 _ _ _ _)
      | (with_reducible exact ih12 _ _ _)
      | (with_reducible exact vireoref01_Sext.mono _ _ _)
      | (with_reducible exact vireoref05_Less.mono _ _ _)
      | (with_reducible exact vireoref05_bitwise.mono _ _ _ _)
      | (with_reducible exact vireoref05_left.mono _ _ _ _)
      | (with_reducible exact vireoref05_right.mono _ _ _ _ _)
      | (with_reducible exact LeO.refl _)
      | (with_reducible exact LeO.none _)
      | (with_reducible refine LeO.ite ?_ ?_)
      | (with_reducible refine LeO.bind ?_ (fun _ => ?_))
      | exact ih0 _ _ _ _ _ _
      | exact ih1 _ _ _ _ _ _
      | exact ih2 _ _ _ _ _ _
      | exact ih3 _ _ _ _ _ _
      | exact ih4 _ _ _ _ _
      | exact ih5 _ _ _ _ _
      | exact ih6 _ _ _ _ _
      | exact ih7 _ _ _ _ _
      | exact ih8 _ _ _ _ _
      | exact ih9 _ _ _ _ _
      | exact ih10 _ _ _ _
      | exact ih11 _ _ _ _
      | exact ih12 _ _ _
      | exact vireoref01_Sext.mono _ _ _
      | exact vireoref05_Less.mono _ _ _
      | exact vireoref05_bitwise.mono _ _ _ _
      | exact vireoref05_left.mono _ _ _ _
      | exact vireoref05_right.mono _ _ _ _ _
      | exact LeO.none _
      | refine LeO.ite ?_ ?_
      | refine LeO.bind ?_ (fun _ => ?_)
    · intro y0 y1 y2 y3 y4
      unfold vireoref05_Do.j5
      repeat' first
      | (with_reducible exact ih0 _ _ _ _ _ _)
      | (with_reducible exact ih1 _ _ _ _ _ _)
      | (with_reducible exact ih2 _ _ _ _ _ _)
      | (with_reducible exact ih3 _ _ _ _ _ _)
      | (with_reducible exact ih4 _ _ _ _ _)
      | (with_reducible exact ih5 _ _ _ _ _)
      | (with_reducible exact ih6 _ _ _ _ _)
      | (with_reducible exact ih7 _ _ _ _ _)
      | (with_reducible exact ih8 _ _ _ _ _)
      | (with_reducible exact ih9 _ _ _ _ _)
      | (with_reducible exact ih10 _ _ _ _)
      | (with_reducible exact ih11 _ _ _ _)
      | (with_reducible exact ih12 _ _ _)
      | (with_reducible exact vireoref01_Sext.mono _ _ _)
      | (with_reducible exact vireoref05_Less.mono _ _ _)
      | (with_reducible exact vireoref05_bitwise.mono _ _ _ _)
      | (with_reducible exact vireoref05_left.mono _ _ _ _)
      | (with_reducible exact vireoref05_right.mono _ _ _ _ _)
      | (with_reducible exact LeO.refl _)
      | (with_reducible exact LeO.none _)
      | (with_reducible refine LeO.ite ?_ ?_)
      | (with_reducible refine LeO.bind ?_ (fun _ => ?_))
      | exact ih0 _ _ _ _ _ _
      | exact ih1 _ _ _ _ _ _
      | exact ih2 _ _ _ _ _ _
      | exact ih3 _ _ _ _ _ _
      | exact ih4 _ _ _ _ _
      | exact ih5 _ _ _ _ _
      | exact ih6 _ _ _ _ _
      | exact ih7 _ _ _ _ _
      | exact ih8 _ _ _ _ _
      | exact ih9 _ _ _ _ _
      | exact ih10 _ _ _ _
      | exact ih11 _ _ _ _
      | exact ih12 _ _ _
      | exact vireoref01_Sext.mono _ _ _
      | exact vireoref05_Less.mono _ _ _
      | exact vireoref05_bitwise.mono _ _ _ _
      | exact vireoref05_left.mono _ _ _ _
      | exact vireoref05_right.mono _ _ _ _ _
      | exact LeO.none _
      | refine LeO.ite ?_ ?_
      | refine LeO.bind ?_ (fun _ => ?_)
    · intro y0 y1 y2 y3 y4
      unfold vireoref05_Do.j6
      repeat' first
      | (with_reducible exact ih0 _ _ _ _ _ _)
      | (with_reducible exact ih1 _ _ _ _ _ _)
      | (with_reducible exact ih2 _ _ _ _ _ _)
      | (with_reducible exact ih3 _ _ _ _ _ _)
      | (with_reducible exact ih4 _ _ _ _ _)
      | (with_reducible exact ih5 _ _ _ _ _)
      | (with_reducible exact ih6 _ _ _ _ _)
      | (with_reducible exact ih7 _ _ _ _ _)
      | (with_reducible exact ih8 _ _ _ _ _)
      | (with_reducible exact ih9 _ _ _ _ _)
      | (with_reducible exact ih10 _ _ _ _)
      | (with_reducible exact ih11 _ _ _ _)
      | (with_reducible exact ih12 _ _ _)
      | (with_reducible exact vireoref01_Sext.mono _ _ _)
      | (with_reducible exact vireoref05_Less.mono _ _ _)
      | (with_reducible exact vireoref05_bitwise.mono _ _ _ _)
      | (with_reducible exact vireoref05_left.mono _ _ _ _)
      | (with_reducible exact vireoref05_right.mono _ _ _ _ _)
      | (with_reducible exact LeO.refl _)
      | (with_reducible exact LeO.none _)
      | (with_reducible refine LeO.ite ?_ ?_)
      | (with_reducible refine LeO.bind ?_ (fun _ => ?_))
      | exact ih0 _ _ _ _ _ _
      | exact ih1 _ _ _ _ _ _
      | exact ih2 _ _ _ _ _ _
      | exact ih3 _ _ _ _ _ _
      | exact ih4 _ _ _ _ _
      | exact ih5 _ _ _ _ _
      | exact ih6 _ _ _ _ _
      | exact ih7 _ _ _ _ _
      | exact ih8 _ _ _ _ _
      | exact ih9 _ _ _ _ _
      | exact ih10 _ _ _ _
      | exact ih11 _ _ _ _
      | exact ih12 _ _ _
      | exact vireoref01_Sext.mono _ _ _
      | exact vireoref05_Less.mono _ _ _
      | exact vireoref05_bitwise.mono _ _ _ _
      | exact vireoref05_left.mono _ _ _ _
      | exact vireoref05_right.mono _ _ _ _ _
      | exact LeO.none _
      | refine LeO.ite ?_ ?_
      | refine LeO.bind ?_ (fun _ => ?_)
    · intro y0 y1 y2 y3 y4
      unfold vireoref05_Do.j7
      repeat' first
      | (with_reducible exact ih0 _ _ _ _ _ _)
      | (with_reducible exact ih1 _ _ _ _ _ _)
      | (with_reducible exact ih2 _ _ _ _ _ _)
      | (with_reducible exact ih3 _ _ _ _ _ _)
      | (with_reducible exact ih4 _ _ _ _ _)
      | (with_reducible exact ih5 _ _ _ _ _)
      | (with_reducible exact ih6 _ _ _ _ _)
      | (with_reducible exact ih7 _ _ _ _ _)
      | (with_reducible exact ih8 _ _ _ _ _)
      | (with_reducible exact ih9 _ _ _ _ _)
      | (with_reducible exact ih10 _ _ _ _)
      | (with_reducible exact ih11 _ _ _ _)
      | (with_reducible exact ih12 _ _ _)
      | (with_reducible exact vireoref01_Sext.mono _ _ _)
      | (with_reducible exact vireoref05_Less.mono _ _ _)
      | (with_reducible exact vireoref05_bitwise.mono _ _ _ _)
      | (with_reducible exact vireoref05_left.mono _ _ _ _)
      | (with_reducible exact vireoref05_right.mono _ _ _ _ _)
      | (with_reducible exact LeO.refl _)
      | (with_reducible exact LeO.none _)
      | (with_reducible refine LeO.ite ?_ ?_)
      | (with_reducible refine LeO.bind ?_ (fun _ => ?_))
      | exact ih0 _ _ _ _ _ _
      | exact ih1 _ _ _ _ _ _
      | exact ih2 _ _ _ _ _ _
      | exact ih3 _ _ _ _ _ _
      | exact ih4 _ _ _ _ _
      | exact ih5 _ _ _ _ _
      | exact ih6 _ _ _ _ _
      | exact ih7 _ _ _ _ _
      | exact ih8 _ _ _ _ _
      | exact ih9 _ _ _ _ _
      | exact ih10 _ _ _ _
      | exact ih11 _ _ _ _
      | exact ih12 _ _ _
      | exact vireoref01_Sext.mono _ _ _
      | exact vireoref05_Less.mono _ _ _
      | exact vireoref05_bitwise.mono _ _ _ _
      | exact vireoref05_left.mono _ _ _ _
      | exact vireoref05_right.mono _ _ _ _ _
      | exact LeO.none _
      | refine LeO.ite ?_ ?_
      | refine LeO.bind ?_ (fun _ => ?_)
    · intro y0 y1 y2 y3 y4
      unfold vireoref05_Do.j8
      repeat' first
      | (with_reducible exact ih0 _ _ _ _ _ _)
      | (with_reducible exact ih1 _ _ _ _ _ _)
      | (with_reducible exact ih2 _ _ _ _ _ _)
      | (with_reducible exact ih3 _ _ _ _ _ _)
      | (with_reducible exact ih4 _ _ _ _ _)
      | (with_reducible exact ih5 _ _ _ _ _)
      | (with_reducible exact ih6 _ _ _ _ _)
      | (with_reducible exact ih7 _ _ _ _ _)
      | (with_reducible exact ih8 _ _ _ _ _)
      | (with_reducible exact ih9 _ _ _ _ _)
      | (with_reducible exact ih10 _ _ _ _)
      | (with_reducible exact ih11 _ _ _ _)
      | (with_reducible exact ih12 _ _ _)
      | (with_reducible exact vireoref01_Sext.mono _ _ _)
      | (with_reducible exact vireoref05_Less.mono _ _ _)
      | (with_reducible exact vireoref05_bitwise.mono _ _ _ _)
      | (with_reducible exact vireoref05_left.mono _ _ _ _)
      | (with_reducible exact vireoref05_right.mono _ _ _ _ _)
      | (with_reducible exact LeO.refl _)
      | (with_reducible exact LeO.none _)
      | (with_reducible refine LeO.ite ?_ ?_)
      | (with_reducible refine LeO.bind ?_ (fun _ => ?_))
      | exact ih0 _ _ _ _ _ _
      | exact ih1 _ _ _ _ _ _
      | exact ih2 _ _ _ _ _ _
      | exact ih3 _ _ _ _ _ _
      | exact ih4 _ _ _ _ _
      | exact ih5 _ _ _ _ _
      | exact ih6 _ _ _ _ _
      | exact ih7 _ _ _ _ _
      | exact ih8 _ _ _ _ _
      | exact ih9 _ _ _ _ _
      | exact ih10 _ _ _ _
      | exact ih11 _ _ _ _
      | exact ih12 _ _ _
      | exact vireoref01_Sext.mono _ _ _
      | exact vireoref05_Less.mono _ _ _
      | exact vireoref05_bitwise.mono _ _ _ _
      | exact vireoref05_left.mono _ _ _ _
      | exact vireoref05_right.mono _ _ _ _ _
      | exact LeO.none _
      | refine LeO.ite ?_ ?_
      | refine LeO.bind ?_ (fun _ => ?_)
    · intro y0 y1 y2 y3 y4
      unfold vireoref05_Do.j9
      repeat' first
      | (with_reducible exact ih0 _ _ _ _ _ _)
      | (with_reducible exact ih1 _ _ _ _ _ _)
      | (with_reducible exact ih2 _ _ _ _ _ _)
      | (with_reducible exact ih3 _ _ _ _ _ _)
      | (with_reducible exact ih4 _ _ _ _ _)
      | (with_reducible exact ih5 _ _ _ _ _)
      | (with_reducible exact ih6 _ _ _ _ _)
      | (with_reducible exact ih7 _ _ _ _ _)
      | (with_reducible exact ih8 _ _ _ _ _)
      | (with_reducible exact ih9 _ _ _ _ _)
      | (with_reducible exact ih10 _ _ _ _)
      | (with_reducible exact ih11 _ _ _ _)
      | (with_reducible exact ih12 _ _ _)
      | (with_reducible exact vireoref01_Sext.mono _ _ _)
      | (with_reducible exact vireoref05_Less.mono _ _ _)
      | (with_reducible exact vireoref05_bitwise.mono _ _ _ _)
      | (with_reducible exact vireoref05_left.mono _ _ _ _)
      | (with_reducible exact vireoref05_right.mono _ _ _ _ _)
      | (with_reducible exact LeO.refl _)
      | (with_reducible exact LeO.none _)
      | (with_reducible refine LeO.ite ?_ ?_)
      | (with_reducible refine LeO.bind ?_ (fun _ => ?_))
      | exact ih0 _ _ _ _ _ _
      | exact ih1 _ _ _ _ _ _
      | exact ih2 _ _ _ _ _ _
      | exact ih3 _ _ _ _ _ _
      | exact ih4 _ _ _ _ _
      | exact ih5 _ _ _ _ _
      | exact ih6 _ _ _ _ _
      | exact ih7 _ _ _ _ _
      | exact ih8 _ _ _ _ _
      | exact ih9 _ _ _ _ _
      | exact ih10 _ _ _ _
      | exact ih11 _ _ _ _
      | exact ih12 _ _ _
      | exact vireoref01_Sext.mono _ _ _
      | exact vireoref05_Less.mono _ _ _
      | exact vireoref05_bitwise.mono _ _ _ _
      | exact vireoref05_left.mono _ _ _ _
      | exact vireoref05_right.mono _ _ _ _ _
      | exact LeO.none _
      | refine LeO.ite ?_ ?_
      | refine LeO.bind ?_ (fun _ => ?_)
    · intro y0 y1 y2 y3
      unfold vireoref05_Do.j10
      repeat' first
      | (with_reducible exact ih0 _ _ _ _ _ _)
      | (with_reducible exact ih1 _ _ _ _ _ _)
      | (with_reducible exact ih2 _ _ _ _ _ _)
      | (with_reducible exact ih3 _ _ _ _ _ _)
      | (with_reducible exact ih4 _ _ _ _ _)
      | (with_reducible exact ih5 _ _ _ _ _)
      | (with_reducible exact ih6 _ _ _ _ _)
      | (with_reducible exact ih7 _ _ _ _ _)
      | (with_reducible exact ih8 _ _ _ _ _)
      | (with_reducible exact ih9 _ _ _ _ _)
      | (with_reducible exact ih10 _ _ _ _)
      | (with_reducible exact ih11 _ _ _ _)
      | (with_reducible exact ih12 _ _ _)
      | (with_reducible exact vireoref01_Sext.mono _ _ _)
      | (with_reducible exact vireoref05_Less.mono _ _ _)
      | (with_reducible exact vireoref05_bitwise.mono _ _ _ _)
      | (with_reducible exact vireoref05_left.mono _ _ _ _)
      | (with_reducible exact vireoref05_right.mono _ _ _ _ _)
      | (with_reducible exact LeO.refl _)
      | (with_reducible exact LeO.none _)
      | (with_reducible refine LeO.ite ?_ ?_)
      | (with_reducible refine LeO.bind ?_ (fun _ => ?_))
      | exact ih0 _ _ _ _ _ _
      | exact ih1 _ _ _ _ _ _
      | exact ih2 _ _ _ _ _ _
      | exact ih3 _ _ _ _ _ _
      | exact ih4 _ _ _ _ _
      | exact ih5 _ _ _ _ _
      | exact ih6 _ _ _ _ _
      | exact ih7 _ _ _ _ _
      | exact ih8 _ _ _ _ _
      | exact ih9 _ _ _ _ _
      | exact ih10 _ _ _ _
      | exact ih11 _ _ _ _
      | exact ih12 _ _ _
      | exact vireoref01_Sext.mono _ _ _
      | exact vireoref05_Less.mono _ _ _
      | exact vireoref05_bitwise.mono _ _ _ _
      | exact vireoref05_left.mono _ _ _ _
      | exact vireoref05_right.mono _ _ _ _ _
      | exact LeO.none _
      | refine LeO.ite ?_ ?_
      | refine LeO.bind ?_ (fun _ => ?_)
    · intro y0 y1 y2 y3
      unfold vireoref05_Do.j11
      repeat' first
      | (with_reducible exact ih0 _ _ _ _ _ _)
      | (with_reducible exact ih1 _ _ _ _ _ _)
      | (with_reducible exact ih2 _ _ _ _ _ _)
      | (with_reducible exact ih3 _ _ _ _ _ _)
      | (with_reducible exact ih4 _ _ _ _ _)
      | (with_reducible exact ih5 _ _ _ _ _)
      | (with_reducible exact ih6 _ _ _ _ _)
      | (with_reducible exact ih7 _ _ _ _ _)
      | (with_reducible exact ih8 _ _ _ _ _)
      | (with_reducible exact ih9 _ _ _ _ _)
      | (with_reducible exact ih10 _ _ _ _)
      | (with_reducible exact ih11 _ _ _ _)
      | (with_reducible exact ih12 _ _ _)
      | (with_reducible exact vireoref01_Sext.mono _ _ _)
      | (with_reducible exact vireoref05_Less.mono _ _ _)
      | (with_reducible exact vireoref05_bitwise.mono _ _ _ _)
      | (with_reducible exact vireoref05_left.mono _ _ _ _)
      | (with_reducible exact vireoref05_right.mono _ _ _ _ _)
      | (with_reducible exact LeO.refl _)
      | (with_reducible exact LeO.none _)
      | (with_reducible refine LeO.ite ?_ ?_)
      | (with_reducible refine LeO.bind ?_ (fun _ => ?_))
      | exact ih0 _ _ _ _ _ _
      | exact ih1 _ _ _ _ _ _
      | exact ih2 _ _ _ _ _ _
      | exact ih3 _ _ _ _ _ _
      | exact ih4 _ _ _ _ _
      | exact ih5 _ _ _ _ _
      | exact ih6 _ _ _ _ _
      | exact ih7 _ _ _ _ _
      | exact ih8 _ _ _ _ _
      | exact ih9 _ _ _ _ _
      | exact ih10 _ _ _ _
      | exact ih11 _ _ _ _
      | exact ih12 _ _ _
      | exact vireoref01_Sext.mono _ _ _
      | exact vireoref05_Less.mono _ _ _
      | exact vireoref05_bitwise.mono _ _ _ _
      | exact vireoref05_left.mono _ _ _ _
      | exact vireoref05_right.mono _ _ _ _ _
      | exact LeO.none _
      | refine LeO.ite ?_ ?_
      | refine LeO.bind ?_ (fun _ => ?_)
    · intro y0 y1 y2
      unfold vireoref05_Do.j12
      repeat' first
      | (with_reducible exact ih0 _ _ _ _ _ _)
      | (with_reducible exact ih1 _ _ _ _ _ _)
      | (with_reducible exact ih2 _ _ _ _ _ _)
      | (with_reducible exact ih3 _ _ _ _ _ _)
      | (with_reducible exact ih4 _ _ _ _ _)
      | (with_reducible exact ih5 _ _ _ _ _)
      | (with_reducible exact ih6 _ _ _ _ _)
      | (with_reducible exact ih7 _ _ _ _ _)
      | (with_reducible exact ih8 _ _ _ _ _)
      | (with_reducible exact ih9 _ _ _ _ _)
      | (with_reducible exact ih10 _ _ _ _)
      | (with_reducible exact ih11 _ _ _ _)
      | (with_reducible exact ih12 _ _ _)
      | (with_reducible exact vireoref01_Sext.mono _ _ _)
      | (with_reducible exact vireoref05_Less.mono _ _ _)
      | (with_reducible exact vireoref05_bitwise.mono _ _ _ _)
      | (with_reducible exact vireoref05_left.mono _ _ _ _)
      | (with_reducible exact vireoref05_right.mono _ _ _ _ _)
      | (with_reducible exact LeO.refl _)
      | (with_reducible exact LeO.none _)
      | (with_reducible refine LeO.ite ?_ ?_)
      | (with_reducible refine LeO.bind ?_ (fun _ => ?_))
      | exact ih0 _ _ _ _ _ _
      | exact ih1 _ _ _ _ _ _
      | exact ih2 _ _ _ _ _ _
      | exact ih3 _ _ _ _ _ _
      | exact ih4 _ _ _ _ _
      | exact ih5 _ _ _ _ _
      | exact ih6 _ _ _ _ _
      | exact ih7 _ _ _ _ _
      | exact ih8 _ _ _ _ _
      | exact ih9 _ _ _ _ _
      | exact ih10 _ _ _ _
      | exact ih11 _ _ _ _
      | exact ih12 _ _ _
      | exact vireoref01_Sext.mono _ _ _
      | exact vireoref05_Less.mono _ _ _
      | exact vireoref05_bitwise.mono _ _ _ _
      | exact vireoref05_left.mono _ _ _ _
      | exact vireoref05_right.mono _ _ _ _ _
      | exact LeO.none _
      | refine LeO.ite ?_ ?_
      | refine LeO.bind ?_ (fun _ => ?_)
theorem vireoref05_Do.mono : ∀ a0 a1 a2 k, LeO (vireoref05_Do.f k a0 a1 a2) (vireoref05_Do.f (k + 1) a0 a1 a2) := by
  intro a0 a1 a2 k
  obtain ⟨ih0, ih1, ih2, ih3, ih4, ih5, ih6, ih7, ih8, ih9, ih10, ih11, ih12⟩ := vireoref05_Do.mono_l k
  unfold vireoref05_Do.f
  repeat' first
      | (with_reducible exact ih0 _ _ _ _ _ _)
      | (with_reducible exact ih1 _ _ _ _ _ _)
      | (with_reducible exact ih2 _ _ _ _ _ _)
      | (with_reducible exact ih3 _ _ _ _ _ _)
      | (with_reducible exact ih4 _ _ _ _ _)
      | (with_reducible exact ih5 _ _ _ _ _)
      | (with_reducible exact ih6 _ _ _ _ _)
      | (with_reducible exact ih7 _ _ _ _ _)
      | (with_reducible exact ih8 _ _ _ _ _)
      | (with_reducible exact ih9 _ _ _ _ _)
      | (with_reducible exact ih10 _ _ _ _)
      | (with_reducible exact ih11 _ _ _ _)
      | (with_reducible exact ih12 _ _ _)
      | (with_reducible exact vireoref01_Sext.mono _ _ _)
      | (with_reducible exact vireoref05_Less.mono _ _ _)
      | (with_reducible exact vireoref05_bitwise.mono _ _ _ _)
      | (with_reducible exact vireoref05_left.mono _ _ _ _)
      | (with_reducible exact vireoref05_right.mono _ _ _ _ _)
      | (with_reducible exact LeO.refl _)
      | (with_reducible exact LeO.none _)
      | (with_reducible refine LeO.ite ?_ ?_)
      | (with_reducible refine LeO.bind ?_ (fun _ => ?_))
      | exact ih0 _ _ _ _ _ _
      | exact ih1 _ _ _ _ _ _
      | exact ih2 _ _ _ _ _ _
      | exact ih3 _ _ _ _ _ _
      | exact ih4 _ _ _ _ _
      | exact ih5 _ _ _ _ _
      | exact ih6 _ _ _ _ _
      | exact ih7 _ _ _ _ _
      | exact ih8 _ _ _ _ _
      | exact ih9 _ _ _ _ _
      | exact ih10 _ _ _ _
      | exact ih11 _ _ _ _
      | exact ih12 _ _ _
      | exact vireoref01_Sext.mono _ _ _
      | exact vireoref05_Less.mono _ _ _
      | exact vireoref05_bitwise.mono _ _ _ _
      | exact vireoref05_left.mono _ _ _ _
      | exact vireoref05_right.mono _ _ _ _ _
      | exact LeO.none _
      | refine LeO.ite ?_ ?_
      | refine LeO.bind ?_ (fun _ => ?_)
set_option maxHeartbeats 8000000 in
set_option maxRecDepth 100000 in
theorem vireoref05_Do.calls (k : Nat) (a0 : Int) (a1 : Int) (a2 : Int) (r1 : Int) (r2 : Bool) (w : World) (h : vireoref05_Do.f k a0 a1 a2 = some (r1, r2)) :
    Calls Try.prog 27 #[.int .i64 a0, .int .u64 a1, .int .u64 a2] w fun e w' => e = .returned (.tuple #[.int .u64 r1, .bool r2]) ∧ Below w.heap.size w w' := by
  have HB := Aside0.mk (Below.refl w.heap.size w)
  have H : (if a0 = 31 then (vireoref05_Do.j0 k a1 a2 (wrap64 (Int.tmod a2 64)) (wrap64 (Int.tmod a2 32)) a0 (a0 == 31)) else (vireoref05_Do.j0 k a1 a2 (wrap64 (Int.tmod a2 64)) (wrap64 (Int.tmod a2 32)) a0 (a0 == 22))) = some (r1, r2) := h
  clear h
  have HC4 := Aside0.mk H
  clear H
  go_enter Try.func27, Try.ntmps27
  go_upto_if 17 with (fail)
  go_cut [17] (fun v17 wc => ∃ (kq : Nat) (x17_3 : Bool), v17 = .bool x17_3 ∧ Aside0 (vireoref05_Do.j0 kq a1 a2 (wrap64 (Int.tmod a2 64)) (wrap64 (Int.tmod a2 32)) a0 x17_3 = some (r1, r2)) ∧ Aside0 (kq ≤ k) ∧ Aside0 (Below w.heap.size w wc))
  case first =>
    have H := HC4.out
    clear HC4
    by_cases c5 : a0 = 31
    · rw [if_pos c5] at H
      have c5b0 : (a0 == 31) = true := beq_iff_eq.mpr c5
      have c5b1 : (a0 != 31) = false := bne_eq_false_iff_eq.mpr c5
      clear c5
      (first | rw [c5b0] | (simp only [i64_w, i32_w]; rw [c5b0]) | skip)
      have H' := Aside0.mk H
      clear H
      go_wp2
      go_meet
      case rel => exact ⟨_, ((a0 == 31)), (by first | rfl | (simp; done) | (simp [*]; done) | (exfalso; simp_all; done)), H', ⟨by first | omega | exact Nat.le_refl _⟩, ⟨by repeat (first | (with_reducible first | exact HB.out | apply below_alloc | apply pw_below_drewN | apply below_drew1) | exact HB.out)⟩⟩
    · rw [if_neg c5] at H
      have c5b0 : (a0 == 31) = false := beq_eq_false_iff_ne.mpr c5
      have c5b1 : (a0 != 31) = true := bne_iff_ne.mpr c5
      (first | rw [c5b0] | (simp only [i64_w, i32_w]; rw [c5b0]) | skip)
      have H' := Aside0.mk H
      clear H
      go_wp2
      go_meet
      case rel => exact ⟨_, ((a0 == 22)), (by first | rfl | (simp; done) | (simp [*]; done) | (exfalso; simp_all; done)), H', ⟨by first | omega | exact Nat.le_refl _⟩, ⟨by repeat (first | (with_reducible first | exact HB.out | apply below_alloc | apply pw_below_drewN | apply below_drew1) | exact HB.out)⟩⟩
  case rest =>
    clear HC4
    try clear c2
    try clear p2
    try clear c5
    try clear c5b0
    try clear c5b1
    obtain ⟨kq, x17_3, rfl, HA, HJ3, HB⟩ := hcut
    cases kq with
    | zero => exact absurd HA.out (by simp [vireoref05_Do.j0])
    | succ kj3 =>
      have H := HA.out
      clear HA
      simp only [vireoref05_Do.j0] at H
      by_cases c6 : x17_3 = true
      · subst c6
        have H1 : (some (IntKind.u64.wrap (a1 + a2), true)) = some (r1, r2) := by rw [if_pos rfl] at H; exact H
        clear H
        have H := H1
        clear H1
        simp only [Option.some.injEq, Prod.mk.injEq] at H
        obtain ⟨rfl, rfl⟩ := H
        go_wp2
        go_ret2
        exact ⟨by first | rfl | (simp [errW_none, errW_some] <;> rfl) | (simp [*, errW_none, errW_some] <;> rfl) | (exfalso; simp_all; done), by repeat (first | (with_reducible first | exact HB.out | apply below_alloc | apply pw_below_drewN | apply below_drew1) | exact HB.out)⟩
      · replace c6 := Bool.eq_false_iff.mpr c6
        subst c6
        have H1 : (if a0 = 32 then (some (IntKind.u64.wrap ((IntKind.u64.wrap (a1 + (Go.bits .xor .u64 18446744073709551615 a2))) + 1), true)) else (if a0 = 33 then (vireoref05_Do.j1 kj3 a1 a2 (wrap64 (Int.tmod a2 64)) (wrap64 (Int.tmod a2 32)) a0 (a0 == 33)) else (vireoref05_Do.j1 kj3 a1 a2 (wrap64 (Int.tmod a2 64)) (wrap64 (Int.tmod a2 32)) a0 (a0 == 28)))) = some (r1, r2) := by rw [if_neg (show ¬ (false = true) by decide)] at H; exact H
        clear H
        have H := H1
        clear H1
        by_cases c7 : a0 = 32
        · rw [if_pos c7] at H
          have c7b0 : (a0 == 32) = true := beq_iff_eq.mpr c7
          have c7b1 : (a0 != 32) = false := bne_eq_false_iff_eq.mpr c7
          clear c7
          simp only [Option.some.injEq, Prod.mk.injEq] at H
          obtain ⟨rfl, rfl⟩ := H
          go_wp2
          go_ret2
          exact ⟨by first | rfl | (simp [errW_none, errW_some] <;> rfl) | (simp [*, errW_none, errW_some] <;> rfl) | (exfalso; simp_all; done), by repeat (first | (with_reducible first | exact HB.out | apply below_alloc | apply pw_below_drewN | apply below_drew1) | exact HB.out)⟩
        · rw [if_neg c7] at H
          have c7b0 : (a0 == 32) = false := beq_eq_false_iff_ne.mpr c7
          have c7b1 : (a0 != 32) = true := bne_iff_ne.mpr c7
          have HC8 := Aside0.mk H
          clear H
          go_upto_if 30 with (fail)
          go_cut [30] (fun v30 wc => ∃ (kq : Nat) (x30_7 : Bool), v30 = .bool x30_7 ∧ Aside0 (vireoref05_Do.j1 kq a1 a2 (wrap64 (Int.tmod a2 64)) (wrap64 (Int.tmod a2 32)) a0 x30_7 = some (r1, r2)) ∧ Aside0 (kq ≤ kj3) ∧ Aside0 (Below w.heap.size w wc))
          case first =>
            have H := HC8.out
            clear HC8
            by_cases c9 : a0 = 33
            · rw [if_pos c9] at H
              have c9b0 : (a0 == 33) = true := beq_iff_eq.mpr c9
              have c9b1 : (a0 != 33) = false := bne_eq_false_iff_eq.mpr c9
              clear c9
              (first | rw [c9b0] | (simp only [i64_w, i32_w]; rw [c9b0]) | skip)
              have H' := Aside0.mk H
              clear H
              go_wp2
              go_meet
              case rel => exact ⟨_, ((a0 == 33)), (by first | rfl | (simp; done) | (simp [*]; done) | (exfalso; simp_all; done)), H', ⟨by have := HJ3.out; first | omega | exact Nat.le_refl _⟩, ⟨by repeat (first | (with_reducible first | exact HB.out | apply below_alloc | apply pw_below_drewN | apply below_drew1) | exact HB.out)⟩⟩
            · rw [if_neg c9] at H
              have c9b0 : (a0 == 33) = false := beq_eq_false_iff_ne.mpr c9
              have c9b1 : (a0 != 33) = true := bne_iff_ne.mpr c9
              (first | rw [c9b0] | (simp only [i64_w, i32_w]; rw [c9b0]) | skip)
              have H' := Aside0.mk H
              clear H
              go_wp2
              go_meet
              case rel => exact ⟨_, ((a0 == 28)), (by first | rfl | (simp; done) | (simp [*]; done) | (exfalso; simp_all; done)), H', ⟨by have := HJ3.out; first | omega | exact Nat.le_refl _⟩, ⟨by repeat (first | (with_reducible first | exact HB.out | apply below_alloc | apply pw_below_drewN | apply below_drew1) | exact HB.out)⟩⟩
          case rest =>
            clear HC8
            try clear c2
            try clear p2
            try clear c5
            try clear c5b0
            try clear c5b1
            try clear c6
            try clear p6
            try clear c7
            try clear c7b0
            try clear c7b1
            try clear c9
            try clear c9b0
            try clear c9b1
            try clear p2
            obtain ⟨kq, x30_7, rfl, HA, HJ7, HB⟩ := hcut
            cases kq with
            | zero => exact absurd HA.out (by simp [vireoref05_Do.j1])
            | succ kj7 =>
              have H := HA.out
              clear HA
              simp only [vireoref05_Do.j1] at H
              by_cases c10 : x30_7 = true
              · subst c10
                have H1 : ((vireoref05_left.f kj7 a1 (wrap64 (Int.tmod a2 64)) 64).bind fun t202 => (some (t202, true))) = some (r1, r2) := by rw [if_pos rfl] at H; exact H
                clear H
                have H := H1
                clear H1
                replace H := Option.bind_eq_some_iff.mp H
                obtain ⟨t202, A110, H⟩ := H
                replace H : (some (t202, true)) = some (r1, r2) := H
                have A11 := Aside0.mk A110
                clear A110
                simp only [Option.some.injEq, Prod.mk.injEq] at H
                obtain ⟨rfl, rfl⟩ := H
                go_wp2_with (first | ((with_reducible refine gate_callee (f := 36) rfl ?_); refine goesL_ (some 35) rfl rfl Try.func36 (by kernel_rfl) rfl #[.int .u64 a1, .int .i64 (wrap64 (Int.tmod a2 64)), .int .i64 64] rfl (by (try simp only [List.map_toArray, List.map_cons, List.map_nil]); first | done | rfl | (simp only [List.length_drop, List.length_take]; rfl)) ?_; (with_reducible refine (vireoref05_left.calls kj7 a1 (wrap64 (Int.tmod a2 64)) 64 t202 _ A11.out).mono ?_); rintro e w12 ⟨rfl, hb⟩; refine ⟨_, rfl, ?_⟩; have n0_ := Aside0.mk (below_step (by repeat (first | (with_reducible first | exact HB.out | apply below_alloc | apply pw_below_drewN | apply below_drew1) | exact HB.out)) hb); clear HB; have HB := n0_; clear n0_; (try clear hb); (try clear hb2); (try clear hk); (try clear hi)))
                go_ret2
                exact ⟨by first | rfl | (simp [errW_none, errW_some] <;> rfl) | (simp [*, errW_none, errW_some] <;> rfl) | (exfalso; simp_all; done), by repeat (first | (with_reducible first | exact HB.out | apply below_alloc | apply pw_below_drewN | apply below_drew1) | exact HB.out)⟩
              · replace c10 := Bool.eq_false_iff.mpr c10
                subst c10
                have H1 : (if a0 = 37 then (vireoref05_Do.j2 kj7 a1 a2 (wrap64 (Int.tmod a2 64)) (wrap64 (Int.tmod a2 32)) a0 (a0 == 37)) else (vireoref05_Do.j2 kj7 a1 a2 (wrap64 (Int.tmod a2 64)) (wrap64 (Int.tmod a2 32)) a0 (a0 == 29))) = some (r1, r2) := by rw [if_neg (show ¬ (false = true) by decide)] at H; exact H
                clear H
                have H := H1
                clear H1
                have HC13 := Aside0.mk H
                clear H
                go_upto_if 36 with (fail)
                go_cut [36] (fun v36 wc => ∃ (kq : Nat) (x36_12 : Bool), v36 = .bool x36_12 ∧ Aside0 (vireoref05_Do.j2 kq a1 a2 (wrap64 (Int.tmod a2 64)) (wrap64 (Int.tmod a2 32)) a0 x36_12 = some (r1, r2)) ∧ Aside0 (kq ≤ kj7) ∧ Aside0 (Below w.heap.size w wc))
                case first =>
                  have H := HC13.out
                  clear HC13
                  by_cases c14 : a0 = 37
                  · rw [if_pos c14] at H
                    have c14b0 : (a0 == 37) = true := beq_iff_eq.mpr c14
                    have c14b1 : (a0 != 37) = false := bne_eq_false_iff_eq.mpr c14
                    clear c14
                    (first | rw [c14b0] | (simp only [i64_w, i32_w]; rw [c14b0]) | skip)
                    have H' := Aside0.mk H
                    clear H
                    go_wp2
                    go_meet
                    case rel => exact ⟨_, ((a0 == 37)), (by first | rfl | (simp; done) | (simp [*]; done) | (exfalso; simp_all; done)), H', ⟨by have := HJ3.out; have := HJ7.out; first | omega | exact Nat.le_refl _⟩, ⟨by repeat (first | (with_reducible first | exact HB.out | apply below_alloc | apply pw_below_drewN | apply below_drew1) | exact HB.out)⟩⟩
                  · rw [if_neg c14] at H
                    have c14b0 : (a0 == 37) = false := beq_eq_false_iff_ne.mpr c14
                    have c14b1 : (a0 != 37) = true := bne_iff_ne.mpr c14
                    (first | rw [c14b0] | (simp only [i64_w, i32_w]; rw [c14b0]) | skip)
                    have H' := Aside0.mk H
                    clear H
                    go_wp2
                    go_meet
                    case rel => exact ⟨_, ((a0 == 29)), (by first | rfl | (simp; done) | (simp [*]; done) | (exfalso; simp_all; done)), H', ⟨by have := HJ3.out; have := HJ7.out; first | omega | exact Nat.le_refl _⟩, ⟨by repeat (first | (with_reducible first | exact HB.out | apply below_alloc | apply pw_below_drewN | apply below_drew1) | exact HB.out)⟩⟩
                case rest =>
                  clear HC13
                  try clear c1
                  try clear c2
                  try clear p2
                  try clear c3
                  try clear c5
                  try clear c5b0
                  try clear c5b1
                  try clear c6
                  try clear p6
                  try clear c7
                  try clear c7b0
                  try clear c7b1
                  try clear c9
                  try clear c9b0
                  try clear c9b1
                  try clear c10
                  try clear c14
                  try clear c14b0
                  try clear c14b1
                  try clear p2
                  try clear p6
                  obtain ⟨kq, x36_12, rfl, HA, HJ12, HB⟩ := hcut
                  cases kq with
                  | zero => exact absurd HA.out (by simp [vireoref05_Do.j2])
                  | succ kj12 =>
                    have H := HA.out
                    clear HA
                    simp only [vireoref05_Do.j2] at H
                    by_cases c15 : x36_12 = true
                    · subst c15
                      have H1 : ((vireoref05_right.f kj12 a1 (wrap64 (Int.tmod a2 64)) 64 false).bind fun t203 => (some (t203, true))) = some (r1, r2) := by rw [if_pos rfl] at H; exact H
                      clear H
                      have H := H1
                      clear H1
                      replace H := Option.bind_eq_some_iff.mp H
                      obtain ⟨t203, A160, H⟩ := H
                      replace H : (some (t203, true)) = some (r1, r2) := H
                      have A16 := Aside0.mk A160
                      clear A160
                      simp only [Option.some.injEq, Prod.mk.injEq] at H
                      obtain ⟨rfl, rfl⟩ := H
                      go_wp2_with (first | ((with_reducible refine gate_callee (f := 37) rfl ?_); refine goesL_ (some 41) rfl rfl Try.func37 (by kernel_rfl) rfl #[.int .u64 a1, .int .i64 (wrap64 (Int.tmod a2 64)), .int .i64 64, .bool false] rfl (by (try simp only [List.map_toArray, List.map_cons, List.map_nil]); first | done | rfl | (simp only [List.length_drop, List.length_take]; rfl)) ?_; (with_reducible refine (vireoref05_right.calls kj12 a1 (wrap64 (Int.tmod a2 64)) 64 false t203 _ A16.out).mono ?_); rintro e w17 ⟨rfl, hb⟩; refine ⟨_, rfl, ?_⟩; have n0_ := Aside0.mk (below_step (by repeat (first | (with_reducible first | exact HB.out | apply below_alloc | apply pw_below_drewN | apply below_drew1) | exact HB.out)) hb); clear HB; have HB := n0_; clear n0_; (try clear hb); (try clear hb2); (try clear hk); (try clear hi)))
                      go_ret2
                      exact ⟨by first | rfl | (simp [errW_none, errW_some] <;> rfl) | (simp [*, errW_none, errW_some] <;> rfl) | (exfalso; simp_all; done), by repeat (first | (with_reducible first | exact HB.out | apply below_alloc | apply pw_below_drewN | apply below_drew1) | exact HB.out)⟩
                    · replace c15 := Bool.eq_false_iff.mpr c15
                      subst c15
                      have H1 : (if a0 = 38 then (vireoref05_Do.j3 kj12 a1 a2 (wrap64 (Int.tmod a2 64)) (wrap64 (Int.tmod a2 32)) a0 (a0 == 38)) else (vireoref05_Do.j3 kj12 a1 a2 (wrap64 (Int.tmod a2 64)) (wrap64 (Int.tmod a2 32)) a0 (a0 == 30))) = some (r1, r2) := by rw [if_neg (show ¬ (false = true) by decide)] at H; exact H
                      clear H
                      have H := H1
                      clear H1
                      have HC18 := Aside0.mk H
                      clear H
                      go_upto_if 42 with (fail)
                      go_cut [42] (fun v42 wc => ∃ (kq : Nat) (x42_17 : Bool), v42 = .bool x42_17 ∧ Aside0 (vireoref05_Do.j3 kq a1 a2 (wrap64 (Int.tmod a2 64)) (wrap64 (Int.tmod a2 32)) a0 x42_17 = some (r1, r2)) ∧ Aside0 (kq ≤ kj12) ∧ Aside0 (Below w.heap.size w wc))
                      case first =>
                        have H := HC18.out
                        clear HC18
                        by_cases c19 : a0 = 38
                        · rw [if_pos c19] at H
                          have c19b0 : (a0 == 38) = true := beq_iff_eq.mpr c19
                          have c19b1 : (a0 != 38) = false := bne_eq_false_iff_eq.mpr c19
                          clear c19
                          (first | rw [c19b0] | (simp only [i64_w, i32_w]; rw [c19b0]) | skip)
                          have H' := Aside0.mk H
                          clear H
                          go_wp2
                          go_meet
                          case rel => exact ⟨_, ((a0 == 38)), (by first | rfl | (simp; done) | (simp [*]; done) | (exfalso; simp_all; done)), H', ⟨by have := HJ3.out; have := HJ7.out; have := HJ12.out; first | omega | exact Nat.le_refl _⟩, ⟨by repeat (first | (with_reducible first | exact HB.out | apply below_alloc | apply pw_below_drewN | apply below_drew1) | exact HB.out)⟩⟩
                        · rw [if_neg c19] at H
                          have c19b0 : (a0 == 38) = false := beq_eq_false_iff_ne.mpr c19
                          have c19b1 : (a0 != 38) = true := bne_iff_ne.mpr c19
                          (first | rw [c19b0] | (simp only [i64_w, i32_w]; rw [c19b0]) | skip)
                          have H' := Aside0.mk H
                          clear H
                          go_wp2
                          go_meet
                          case rel => exact ⟨_, ((a0 == 30)), (by first | rfl | (simp; done) | (simp [*]; done) | (exfalso; simp_all; done)), H', ⟨by have := HJ3.out; have := HJ7.out; have := HJ12.out; first | omega | exact Nat.le_refl _⟩, ⟨by repeat (first | (with_reducible first | exact HB.out | apply below_alloc | apply pw_below_drewN | apply below_drew1) | exact HB.out)⟩⟩
                      case rest =>
                        clear HC18
                        try clear c1
                        try clear c2
                        try clear p2
                        try clear c3
                        try clear c5
                        try clear c5b0
                        try clear c5b1
                        try clear c6
                        try clear p6
                        try clear c7
                        try clear c7b0
                        try clear c7b1
                        try clear c9
                        try clear c9b0
                        try clear c9b1
                        try clear c10
                        try clear c14
                        try clear c14b0
                        try clear c14b1
                        try clear c15
                        try clear c19
                        try clear c19b0
                        try clear c19b1
                        try clear p2
                        try clear p6
                        obtain ⟨kq, x42_17, rfl, HA, HJ17, HB⟩ := hcut
                        cases kq with
                        | zero => exact absurd HA.out (by simp [vireoref05_Do.j3])
                        | succ kj17 =>
                          have H := HA.out
                          clear HA
                          simp only [vireoref05_Do.j3] at H
                          by_cases c20 : x42_17 = true
                          · subst c20
                            have H1 : ((vireoref05_right.f kj17 a1 (wrap64 (Int.tmod a2 64)) 64 true).bind fun t204 => (some (t204, true))) = some (r1, r2) := by rw [if_pos rfl] at H; exact H
                            clear H
                            have H := H1
                            clear H1
                            replace H := Option.bind_eq_some_iff.mp H
                            obtain ⟨t204, A210, H⟩ := H
                            replace H : (some (t204, true)) = some (r1, r2) := H
                            have A21 := Aside0.mk A210
                            clear A210
                            simp only [Option.some.injEq, Prod.mk.injEq] at H
                            obtain ⟨rfl, rfl⟩ := H
                            go_wp2_with (first | ((with_reducible refine gate_callee (f := 37) rfl ?_); refine goesL_ (some 47) rfl rfl Try.func37 (by kernel_rfl) rfl #[.int .u64 a1, .int .i64 (wrap64 (Int.tmod a2 64)), .int .i64 64, .bool true] rfl (by (try simp only [List.map_toArray, List.map_cons, List.map_nil]); first | done | rfl | (simp only [List.length_drop, List.length_take]; rfl)) ?_; (with_reducible refine (vireoref05_right.calls kj17 a1 (wrap64 (Int.tmod a2 64)) 64 true t204 _ A21.out).mono ?_); rintro e w22 ⟨rfl, hb⟩; refine ⟨_, rfl, ?_⟩; have n0_ := Aside0.mk (below_step (by repeat (first | (with_reducible first | exact HB.out | apply below_alloc | apply pw_below_drewN | apply below_drew1) | exact HB.out)) hb); clear HB; have HB := n0_; clear n0_; (try clear hb); (try clear hb2); (try clear hk); (try clear hi)))
                            go_ret2
                            exact ⟨by first | rfl | (simp [errW_none, errW_some] <;> rfl) | (simp [*, errW_none, errW_some] <;> rfl) | (exfalso; simp_all; done), by repeat (first | (with_reducible first | exact HB.out | apply below_alloc | apply pw_below_drewN | apply below_drew1) | exact HB.out)⟩
                          · replace c20 := Bool.eq_false_iff.mpr c20
                            subst c20
                            have H1 : (if a0 = 34 then (vireoref05_Do.j4 kj17 a1 a2 (wrap64 (Int.tmod a2 32)) a0 (a0 == 34)) else (vireoref05_Do.j4 kj17 a1 a2 (wrap64 (Int.tmod a2 32)) a0 (a0 == 23))) = some (r1, r2) := by rw [if_neg (show ¬ (false = true) by decide)] at H; exact H
                            clear H
                            have H := H1
                            clear H1
                            have HC23 := Aside0.mk H
                            clear H
                            go_upto_if 48 with (fail)
                            go_cut [48] (fun v48 wc => ∃ (kq : Nat) (x48_22 : Bool), v48 = .bool x48_22 ∧ Aside0 (vireoref05_Do.j4 kq a1 a2 (wrap64 (Int.tmod a2 32)) a0 x48_22 = some (r1, r2)) ∧ Aside0 (kq ≤ kj17) ∧ Aside0 (Below w.heap.size w wc))
                            case first =>
                              have H := HC23.out
                              clear HC23
                              by_cases c24 : a0 = 34
                              · rw [if_pos c24] at H
                                have c24b0 : (a0 == 34) = true := beq_iff_eq.mpr c24
                                have c24b1 : (a0 != 34) = false := bne_eq_false_iff_eq.mpr c24
                                clear c24
                                (first | rw [c24b0] | (simp only [i64_w, i32_w]; rw [c24b0]) | skip)
                                have H' := Aside0.mk H
                                clear H
                                go_wp2
                                go_meet
                                case rel => exact ⟨_, ((a0 == 34)), (by first | rfl | (simp; done) | (simp [*]; done) | (exfalso; simp_all; done)), H', ⟨by have := HJ3.out; have := HJ7.out; have := HJ12.out; have := HJ17.out; first | omega | exact Nat.le_refl _⟩, ⟨by repeat (first | (with_reducible first | exact HB.out | apply below_alloc | apply pw_below_drewN | apply below_drew1) | exact HB.out)⟩⟩
                              · rw [if_neg c24] at H
                                have c24b0 : (a0 == 34) = false := beq_eq_false_iff_ne.mpr c24
                                have c24b1 : (a0 != 34) = true := bne_iff_ne.mpr c24
                                (first | rw [c24b0] | (simp only [i64_w, i32_w]; rw [c24b0]) | skip)
                                have H' := Aside0.mk H
                                clear H
                                go_wp2
                                go_meet
                                case rel => exact ⟨_, ((a0 == 23)), (by first | rfl | (simp; done) | (simp [*]; done) | (exfalso; simp_all; done)), H', ⟨by have := HJ3.out; have := HJ7.out; have := HJ12.out; have := HJ17.out; first | omega | exact Nat.le_refl _⟩, ⟨by repeat (first | (with_reducible first | exact HB.out | apply below_alloc | apply pw_below_drewN | apply below_drew1) | exact HB.out)⟩⟩
                            case rest =>
                              clear HC23
                              try clear c1
                              try clear c2
                              try clear p2
                              try clear c3
                              try clear c5
                              try clear c5b0
                              try clear c5b1
                              try clear c6
                              try clear p6
                              try clear c7
                              try clear c7b0
                              try clear c7b1
                              try clear c9
                              try clear c9b0
                              try clear c9b1
                              try clear c10
                              try clear c14
                              try clear c14b0
                              try clear c14b1
                              try clear c15
                              try clear c19
                              try clear c19b0
                              try clear c19b1
                              try clear c20
                              try clear c24
                              try clear c24b0
                              try clear c24b1
                              try clear p2
                              try clear p6
                              obtain ⟨kq, x48_22, rfl, HA, HJ22, HB⟩ := hcut
                              cases kq with
                              | zero => exact absurd HA.out (by simp [vireoref05_Do.j4])
                              | succ kj22 =>
                                have H := HA.out
                                clear HA
                                simp only [vireoref05_Do.j4] at H
                                by_cases c25 : x48_22 = true
                                · subst c25
                                  have H1 : ((vireoref05_Less.f kj22 a1 a2).bind fun t205 => ((vireoref05_flag.f t205).bind fun t206 => (some (t206, true)))) = some (r1, r2) := by rw [if_pos rfl] at H; exact H
                                  clear H
                                  have H := H1
                                  clear H1
                                  replace H := Option.bind_eq_some_iff.mp H
                                  obtain ⟨t205, A260, H⟩ := H
                                  replace H : ((vireoref05_flag.f t205).bind fun t206 => (some (t206, true))) = some (r1, r2) := H
                                  have A26 := Aside0.mk A260
                                  clear A260
                                  replace H := Option.bind_eq_some_iff.mp H
                                  obtain ⟨t206, A270, H⟩ := H
                                  replace H : (some (t206, true)) = some (r1, r2) := H
                                  have A27 := Aside0.mk A270
                                  clear A270
                                  simp only [Option.some.injEq, Prod.mk.injEq] at H
                                  obtain ⟨rfl, rfl⟩ := H
                                  go_wp2_with (first | ((with_reducible refine gate_callee (f := 26) rfl ?_); refine goesL_ (some 53) rfl rfl Try.func26 (by kernel_rfl) rfl #[.int .u64 a1, .int .u64 a2] rfl (by (try simp only [List.map_toArray, List.map_cons, List.map_nil]); first | done | rfl | (simp only [List.length_drop, List.length_take]; rfl)) ?_; (with_reducible refine (vireoref05_Less.calls kj22 a1 a2 t205 _ A26.out).mono ?_); rintro e w28 ⟨rfl, hb⟩; refine ⟨_, rfl, ?_⟩; have n0_ := Aside0.mk (below_step (by repeat (first | (with_reducible first | exact HB.out | apply below_alloc | apply pw_below_drewN | apply below_drew1) | exact HB.out)) hb); clear HB; have HB := n0_; clear n0_; (try clear hb); (try clear hb2); (try clear hk); (try clear hi)) | ((with_reducible refine gate_callee (f := 38) rfl ?_); refine goesL_ (some 54) rfl rfl Try.func38 (by kernel_rfl) rfl #[.bool t205] rfl (by (try simp only [List.map_toArray, List.map_cons, List.map_nil]); first | done | rfl | (simp only [List.length_drop, List.length_take]; rfl)) ?_; (with_reducible refine (vireoref05_flag.calls t205 t206 _ A27.out).mono ?_); rintro e w' ⟨rfl, ⟨nd, rfl⟩⟩; refine ⟨_, rfl, ?_⟩))
                                  go_ret2
                                  exact ⟨by first | rfl | (simp [errW_none, errW_some] <;> rfl) | (simp [*, errW_none, errW_some] <;> rfl) | (exfalso; simp_all; done), by repeat (first | (with_reducible first | exact HB.out | apply below_alloc | apply pw_below_drewN | apply below_drew1) | exact HB.out)⟩
                                · replace c25 := Bool.eq_false_iff.mpr c25
                                  subst c25
                                  have H1 : (if a0 = 35 then (vireoref05_Do.j5 kj22 a1 a2 (wrap64 (Int.tmod a2 32)) a0 (a0 == 35)) else (vireoref05_Do.j5 kj22 a1 a2 (wrap64 (Int.tmod a2 32)) a0 (a0 == 24))) = some (r1, r2) := by rw [if_neg (show ¬ (false = true) by decide)] at H; exact H
                                  clear H
                                  have H := H1
                                  clear H1
                                  have HC29 := Aside0.mk H
                                  clear H
                                  go_upto_if 55 with (fail)
                                  go_cut [55] (fun v55 wc => ∃ (kq : Nat) (x55_28 : Bool), v55 = .bool x55_28 ∧ Aside0 (vireoref05_Do.j5 kq a1 a2 (wrap64 (Int.tmod a2 32)) a0 x55_28 = some (r1, r2)) ∧ Aside0 (kq ≤ kj22) ∧ Aside0 (Below w.heap.size w wc))
                                  case first =>
                                    have H := HC29.out
                                    clear HC29
                                    by_cases c30 : a0 = 35
                                    · rw [if_pos c30] at H
                                      have c30b0 : (a0 == 35) = true := beq_iff_eq.mpr c30
                                      have c30b1 : (a0 != 35) = false := bne_eq_false_iff_eq.mpr c30
                                      clear c30
                                      (first | rw [c30b0] | (simp only [i64_w, i32_w]; rw [c30b0]) | skip)
                                      have H' := Aside0.mk H
                                      clear H
                                      go_wp2
                                      go_meet
                                      case rel => exact ⟨_, ((a0 == 35)), (by first | rfl | (simp; done) | (simp [*]; done) | (exfalso; simp_all; done)), H', ⟨by have := HJ3.out; have := HJ7.out; have := HJ12.out; have := HJ17.out; have := HJ22.out; first | omega | exact Nat.le_refl _⟩, ⟨by repeat (first | (with_reducible first | exact HB.out | apply below_alloc | apply pw_below_drewN | apply below_drew1) | exact HB.out)⟩⟩
                                    · rw [if_neg c30] at H
                                      have c30b0 : (a0 == 35) = false := beq_eq_false_iff_ne.mpr c30
                                      have c30b1 : (a0 != 35) = true := bne_iff_ne.mpr c30
                                      (first | rw [c30b0] | (simp only [i64_w, i32_w]; rw [c30b0]) | skip)
                                      have H' := Aside0.mk H
                                      clear H
                                      go_wp2
                                      go_meet
                                      case rel => exact ⟨_, ((a0 == 24)), (by first | rfl | (simp; done) | (simp [*]; done) | (exfalso; simp_all; done)), H', ⟨by have := HJ3.out; have := HJ7.out; have := HJ12.out; have := HJ17.out; have := HJ22.out; first | omega | exact Nat.le_refl _⟩, ⟨by repeat (first | (with_reducible first | exact HB.out | apply below_alloc | apply pw_below_drewN | apply below_drew1) | exact HB.out)⟩⟩
                                  case rest =>
                                    clear HC29
                                    try clear c1
                                    try clear c2
                                    try clear p2
                                    try clear c3
                                    try clear c5
                                    try clear c5b0
                                    try clear c5b1
                                    try clear c6
                                    try clear p6
                                    try clear c7
                                    try clear c7b0
                                    try clear c7b1
                                    try clear c9
                                    try clear c9b0
                                    try clear c9b1
                                    try clear c10
                                    try clear c14
                                    try clear c14b0
                                    try clear c14b1
                                    try clear c15
                                    try clear c19
                                    try clear c19b0
                                    try clear c19b1
                                    try clear c20
                                    try clear c24
                                    try clear c24b0
                                    try clear c24b1
                                    try clear c25
                                    try clear c26
                                    try clear c27
                                    try clear c30
                                    try clear c30b0
                                    try clear c30b1
                                    try clear p2
                                    try clear p6
                                    obtain ⟨kq, x55_28, rfl, HA, HJ28, HB⟩ := hcut
                                    cases kq with
                                    | zero => exact absurd HA.out (by simp [vireoref05_Do.j5])
                                    | succ kj28 =>
                                      have H := HA.out
                                      clear HA
                                      simp only [vireoref05_Do.j5] at H
                                      by_cases c31 : x55_28 = true
                                      · subst c31
                                        have H1 : ((vireoref05_flag.f (decide (a1 < a2))).bind fun t207 => (some (t207, true))) = some (r1, r2) := by rw [if_pos rfl] at H; exact H
                                        clear H
                                        have H := H1
                                        clear H1
                                        replace H := Option.bind_eq_some_iff.mp H
                                        obtain ⟨t207, A320, H⟩ := H
                                        replace H : (some (t207, true)) = some (r1, r2) := H
                                        have A32 := Aside0.mk A320
                                        clear A320
                                        simp only [Option.some.injEq, Prod.mk.injEq] at H
                                        obtain ⟨rfl, rfl⟩ := H
                                        go_wp2_with (first | ((with_reducible refine gate_callee (f := 38) rfl ?_); refine goesL_ (some 61) rfl rfl Try.func38 (by kernel_rfl) rfl #[.bool (decide (a1 < a2))] rfl (by (try simp only [List.map_toArray, List.map_cons, List.map_nil]); first | done | rfl | (simp only [List.length_drop, List.length_take]; rfl)) ?_; (with_reducible refine (vireoref05_flag.calls (decide (a1 < a2)) t207 _ A32.out).mono ?_); rintro e w' ⟨rfl, ⟨nd, rfl⟩⟩; refine ⟨_, rfl, ?_⟩))
                                        go_ret2
                                        exact ⟨by first | rfl | (simp [errW_none, errW_some] <;> rfl) | (simp [*, errW_none, errW_some] <;> rfl) | (exfalso; simp_all; done), by repeat (first | (with_reducible first | exact HB.out | apply below_alloc | apply pw_below_drewN | apply below_drew1) | exact HB.out)⟩
                                      · replace c31 := Bool.eq_false_iff.mpr c31
                                        subst c31
                                        have H1 : (if a0 = 40 then (vireoref05_Do.j6 kj28 a1 a2 (wrap64 (Int.tmod a2 32)) a0 (a0 == 40)) else (vireoref05_Do.j6 kj28 a1 a2 (wrap64 (Int.tmod a2 32)) a0 (a0 == 27))) = some (r1, r2) := by rw [if_neg (show ¬ (false = true) by decide)] at H; exact H
                                        clear H
                                        have H := H1
                                        clear H1
                                        have HC33 := Aside0.mk H
                                        clear H
                                        go_upto_if 62 with (fail)
                                        go_cut [62] (fun v62 wc => ∃ (kq : Nat) (x62_32 : Bool), v62 = .bool x62_32 ∧ Aside0 (vireoref05_Do.j6 kq a1 a2 (wrap64 (Int.tmod a2 32)) a0 x62_32 = some (r1, r2)) ∧ Aside0 (kq ≤ kj28) ∧ Aside0 (Below w.heap.size w wc))
                                        case first =>
                                          have H := HC33.out
                                          clear HC33
                                          by_cases c34 : a0 = 40
                                          · rw [if_pos c34] at H
                                            have c34b0 : (a0 == 40) = true := beq_iff_eq.mpr c34
                                            have c34b1 : (a0 != 40) = false := bne_eq_false_iff_eq.mpr c34
                                            clear c34
                                            (first | rw [c34b0] | (simp only [i64_w, i32_w]; rw [c34b0]) | skip)
                                            have H' := Aside0.mk H
                                            clear H
                                            go_wp2
                                            go_meet
                                            case rel => exact ⟨_, ((a0 == 40)), (by first | rfl | (simp; done) | (simp [*]; done) | (exfalso; simp_all; done)), H', ⟨by have := HJ3.out; have := HJ7.out; have := HJ12.out; have := HJ17.out; have := HJ22.out; have := HJ28.out; first | omega | exact Nat.le_refl _⟩, ⟨by repeat (first | (with_reducible first | exact HB.out | apply below_alloc | apply pw_below_drewN | apply below_drew1) | exact HB.out)⟩⟩
                                          · rw [if_neg c34] at H
                                            have c34b0 : (a0 == 40) = false := beq_eq_false_iff_ne.mpr c34
                                            have c34b1 : (a0 != 40) = true := bne_iff_ne.mpr c34
                                            (first | rw [c34b0] | (simp only [i64_w, i32_w]; rw [c34b0]) | skip)
                                            have H' := Aside0.mk H
                                            clear H
                                            go_wp2
                                            go_meet
                                            case rel => exact ⟨_, ((a0 == 27)), (by first | rfl | (simp; done) | (simp [*]; done) | (exfalso; simp_all; done)), H', ⟨by have := HJ3.out; have := HJ7.out; have := HJ12.out; have := HJ17.out; have := HJ22.out; have := HJ28.out; first | omega | exact Nat.le_refl _⟩, ⟨by repeat (first | (with_reducible first | exact HB.out | apply below_alloc | apply pw_below_drewN | apply below_drew1) | exact HB.out)⟩⟩
                                        case rest =>
                                          clear HC33
                                          try clear c1
                                          try clear c2
                                          try clear p2
                                          try clear c3
                                          try clear c5
                                          try clear c5b0
                                          try clear c5b1
                                          try clear c6
                                          try clear p6
                                          try clear c7
                                          try clear c7b0
                                          try clear c7b1
                                          try clear c9
                                          try clear c9b0
                                          try clear c9b1
                                          try clear c10
                                          try clear c14
                                          try clear c14b0
                                          try clear c14b1
                                          try clear c15
                                          try clear c19
                                          try clear c19b0
                                          try clear c19b1
                                          try clear c20
                                          try clear c24
                                          try clear c24b0
                                          try clear c24b1
                                          try clear c25
                                          try clear c26
                                          try clear c27
                                          try clear c30
                                          try clear c30b0
                                          try clear c30b1
                                          try clear c31
                                          try clear c34
                                          try clear c34b0
                                          try clear c34b1
                                          try clear p2
                                          try clear p6
                                          obtain ⟨kq, x62_32, rfl, HA, HJ32, HB⟩ := hcut
                                          cases kq with
                                          | zero => exact absurd HA.out (by simp [vireoref05_Do.j6])
                                          | succ kj32 =>
                                            have H := HA.out
                                            clear HA
                                            simp only [vireoref05_Do.j6] at H
                                            by_cases c35 : x62_32 = true
                                            · subst c35
                                              have H1 : ((vireoref05_bitwise.f kj32 a1 a2 0).bind fun t208 => (some (t208, true))) = some (r1, r2) := by rw [if_pos rfl] at H; exact H
                                              clear H
                                              have H := H1
                                              clear H1
                                              replace H := Option.bind_eq_some_iff.mp H
                                              obtain ⟨t208, A360, H⟩ := H
                                              replace H : (some (t208, true)) = some (r1, r2) := H
                                              have A36 := Aside0.mk A360
                                              clear A360
                                              simp only [Option.some.injEq, Prod.mk.injEq] at H
                                              obtain ⟨rfl, rfl⟩ := H
                                              go_wp2_with (first | ((with_reducible refine gate_callee (f := 39) rfl ?_); refine goesL_ (some 67) rfl rfl Try.func39 (by kernel_rfl) rfl #[.int .u64 a1, .int .u64 a2, .int .i64 0] rfl (by (try simp only [List.map_toArray, List.map_cons, List.map_nil]); first | done | rfl | (simp only [List.length_drop, List.length_take]; rfl)) ?_; (with_reducible refine (vireoref05_bitwise.calls kj32 a1 a2 0 t208 _ A36.out).mono ?_); rintro e w37 ⟨rfl, hb⟩; refine ⟨_, rfl, ?_⟩; have n0_ := Aside0.mk (below_step (by repeat (first | (with_reducible first | exact HB.out | apply below_alloc | apply pw_below_drewN | apply below_drew1) | exact HB.out)) hb); clear HB; have HB := n0_; clear n0_; (try clear hb); (try clear hb2); (try clear hk); (try clear hi)))
                                              go_ret2
                                              exact ⟨by first | rfl | (simp [errW_none, errW_some] <;> rfl) | (simp [*, errW_none, errW_some] <;> rfl) | (exfalso; simp_all; done), by repeat (first | (with_reducible first | exact HB.out | apply below_alloc | apply pw_below_drewN | apply below_drew1) | exact HB.out)⟩
                                            · replace c35 := Bool.eq_false_iff.mpr c35
                                              subst c35
                                              have H1 : (if a0 = 39 then (vireoref05_Do.j7 kj32 a1 a2 (wrap64 (Int.tmod a2 32)) a0 (a0 == 39)) else (vireoref05_Do.j7 kj32 a1 a2 (wrap64 (Int.tmod a2 32)) a0 (a0 == 26))) = some (r1, r2) := by rw [if_neg (show ¬ (false = true) by decide)] at H; exact H
                                              clear H
                                              have H := H1
                                              clear H1
                                              have HC38 := Aside0.mk H
                                              clear H
                                              go_upto_if 68 with (fail)
                                              go_cut [68] (fun v68 wc => ∃ (kq : Nat) (x68_37 : Bool), v68 = .bool x68_37 ∧ Aside0 (vireoref05_Do.j7 kq a1 a2 (wrap64 (Int.tmod a2 32)) a0 x68_37 = some (r1, r2)) ∧ Aside0 (kq ≤ kj32) ∧ Aside0 (Below w.heap.size w wc))
                                              case first =>
                                                have H := HC38.out
                                                clear HC38
                                                by_cases c39 : a0 = 39
                                                · rw [if_pos c39] at H
                                                  have c39b0 : (a0 == 39) = true := beq_iff_eq.mpr c39
                                                  have c39b1 : (a0 != 39) = false := bne_eq_false_iff_eq.mpr c39
                                                  clear c39
                                                  (first | rw [c39b0] | (simp only [i64_w, i32_w]; rw [c39b0]) | skip)
                                                  have H' := Aside0.mk H
                                                  clear H
                                                  go_wp2
                                                  go_meet
                                                  case rel => exact ⟨_, ((a0 == 39)), (by first | rfl | (simp; done) | (simp [*]; done) | (exfalso; simp_all; done)), H', ⟨by have := HJ3.out; have := HJ7.out; have := HJ12.out; have := HJ17.out; have := HJ22.out; have := HJ28.out; have := HJ32.out; first | omega | exact Nat.le_refl _⟩, ⟨by repeat (first | (with_reducible first | exact HB.out | apply below_alloc | apply pw_below_drewN | apply below_drew1) | exact HB.out)⟩⟩
                                                · rw [if_neg c39] at H
                                                  have c39b0 : (a0 == 39) = false := beq_eq_false_iff_ne.mpr c39
                                                  have c39b1 : (a0 != 39) = true := bne_iff_ne.mpr c39
                                                  (first | rw [c39b0] | (simp only [i64_w, i32_w]; rw [c39b0]) | skip)
                                                  have H' := Aside0.mk H
                                                  clear H
                                                  go_wp2
                                                  go_meet
                                                  case rel => exact ⟨_, ((a0 == 26)), (by first | rfl | (simp; done) | (simp [*]; done) | (exfalso; simp_all; done)), H', ⟨by have := HJ3.out; have := HJ7.out; have := HJ12.out; have := HJ17.out; have := HJ22.out; have := HJ28.out; have := HJ32.out; first | omega | exact Nat.le_refl _⟩, ⟨by repeat (first | (with_reducible first | exact HB.out | apply below_alloc | apply pw_below_drewN | apply below_drew1) | exact HB.out)⟩⟩
                                              case rest =>
                                                clear HC38
                                                try clear c1
                                                try clear c2
                                                try clear p2
                                                try clear c3
                                                try clear c5
                                                try clear c5b0
                                                try clear c5b1
                                                try clear c6
                                                try clear p6
                                                try clear c7
                                                try clear c7b0
                                                try clear c7b1
                                                try clear c9
                                                try clear c9b0
                                                try clear c9b1
                                                try clear c10
                                                try clear c14
                                                try clear c14b0
                                                try clear c14b1
                                                try clear c15
                                                try clear c19
                                                try clear c19b0
                                                try clear c19b1
                                                try clear c20
                                                try clear c24
                                                try clear c24b0
                                                try clear c24b1
                                                try clear c25
                                                try clear c26
                                                try clear c27
                                                try clear c30
                                                try clear c30b0
                                                try clear c30b1
                                                try clear c31
                                                try clear c34
                                                try clear c34b0
                                                try clear c34b1
                                                try clear c35
                                                try clear c36
                                                try clear c37
                                                try clear c38
                                                try clear c39
                                                try clear c39b0
                                                try clear c39b1
                                                try clear p2
                                                try clear p6
                                                obtain ⟨kq, x68_37, rfl, HA, HJ37, HB⟩ := hcut
                                                cases kq with
                                                | zero => exact absurd HA.out (by simp [vireoref05_Do.j7])
                                                | succ kj37 =>
                                                  have H := HA.out
                                                  clear HA
                                                  simp only [vireoref05_Do.j7] at H
                                                  by_cases c40 : x68_37 = true
                                                  · subst c40
                                                    have H1 : ((vireoref05_bitwise.f kj37 a1 a2 1).bind fun t209 => (some (t209, true))) = some (r1, r2) := by rw [if_pos rfl] at H; exact H
                                                    clear H
                                                    have H := H1
                                                    clear H1
                                                    replace H := Option.bind_eq_some_iff.mp H
                                                    obtain ⟨t209, A410, H⟩ := H
                                                    replace H : (some (t209, true)) = some (r1, r2) := H
                                                    have A41 := Aside0.mk A410
                                                    clear A410
                                                    simp only [Option.some.injEq, Prod.mk.injEq] at H
                                                    obtain ⟨rfl, rfl⟩ := H
                                                    go_wp2_with (first | ((with_reducible refine gate_callee (f := 39) rfl ?_); refine goesL_ (some 73) rfl rfl Try.func39 (by kernel_rfl) rfl #[.int .u64 a1, .int .u64 a2, .int .i64 1] rfl (by (try simp only [List.map_toArray, List.map_cons, List.map_nil]); first | done | rfl | (simp only [List.length_drop, List.length_take]; rfl)) ?_; (with_reducible refine (vireoref05_bitwise.calls kj37 a1 a2 1 t209 _ A41.out).mono ?_); rintro e w42 ⟨rfl, hb⟩; refine ⟨_, rfl, ?_⟩; have n0_ := Aside0.mk (below_step (by repeat (first | (with_reducible first | exact HB.out | apply below_alloc | apply pw_below_drewN | apply below_drew1) | exact HB.out)) hb); clear HB; have HB := n0_; clear n0_; (try clear hb); (try clear hb2); (try clear hk); (try clear hi)))
                                                    go_ret2
                                                    exact ⟨by first | rfl | (simp [errW_none, errW_some] <;> rfl) | (simp [*, errW_none, errW_some] <;> rfl) | (exfalso; simp_all; done), by repeat (first | (with_reducible first | exact HB.out | apply below_alloc | apply pw_below_drewN | apply below_drew1) | exact HB.out)⟩
                                                  · replace c40 := Bool.eq_false_iff.mpr c40
                                                    subst c40
                                                    have H1 : (if a0 = 36 then (vireoref05_Do.j8 kj37 a1 a2 (wrap64 (Int.tmod a2 32)) a0 (a0 == 36)) else (vireoref05_Do.j8 kj37 a1 a2 (wrap64 (Int.tmod a2 32)) a0 (a0 == 25))) = some (r1, r2) := by rw [if_neg (show ¬ (false = true) by decide)] at H; exact H
                                                    clear H
                                                    have H := H1
                                                    clear H1
                                                    have HC43 := Aside0.mk H
                                                    clear H
                                                    go_upto_if 74 with (fail)
                                                    go_cut [74] (fun v74 wc => ∃ (kq : Nat) (x74_42 : Bool), v74 = .bool x74_42 ∧ Aside0 (vireoref05_Do.j8 kq a1 a2 (wrap64 (Int.tmod a2 32)) a0 x74_42 = some (r1, r2)) ∧ Aside0 (kq ≤ kj37) ∧ Aside0 (Below w.heap.size w wc))
                                                    case first =>
                                                      have H := HC43.out
                                                      clear HC43
                                                      by_cases c44 : a0 = 36
                                                      · rw [if_pos c44] at H
                                                        have c44b0 : (a0 == 36) = true := beq_iff_eq.mpr c44
                                                        have c44b1 : (a0 != 36) = false := bne_eq_false_iff_eq.mpr c44
                                                        clear c44
                                                        (first | rw [c44b0] | (simp only [i64_w, i32_w]; rw [c44b0]) | skip)
                                                        have H' := Aside0.mk H
                                                        clear H
                                                        go_wp2
                                                        go_meet
                                                        case rel => exact ⟨_, ((a0 == 36)), (by first | rfl | (simp; done) | (simp [*]; done) | (exfalso; simp_all; done)), H', ⟨by have := HJ3.out; have := HJ7.out; have := HJ12.out; have := HJ17.out; have := HJ22.out; have := HJ28.out; have := HJ32.out; have := HJ37.out; first | omega | exact Nat.le_refl _⟩, ⟨by repeat (first | (with_reducible first | exact HB.out | apply below_alloc | apply pw_below_drewN | apply below_drew1) | exact HB.out)⟩⟩
                                                      · rw [if_neg c44] at H
                                                        have c44b0 : (a0 == 36) = false := beq_eq_false_iff_ne.mpr c44
                                                        have c44b1 : (a0 != 36) = true := bne_iff_ne.mpr c44
                                                        (first | rw [c44b0] | (simp only [i64_w, i32_w]; rw [c44b0]) | skip)
                                                        have H' := Aside0.mk H
                                                        clear H
                                                        go_wp2
                                                        go_meet
                                                        case rel => exact ⟨_, ((a0 == 25)), (by first | rfl | (simp; done) | (simp [*]; done) | (exfalso; simp_all; done)), H', ⟨by have := HJ3.out; have := HJ7.out; have := HJ12.out; have := HJ17.out; have := HJ22.out; have := HJ28.out; have := HJ32.out; have := HJ37.out; first | omega | exact Nat.le_refl _⟩, ⟨by repeat (first | (with_reducible first | exact HB.out | apply below_alloc | apply pw_below_drewN | apply below_drew1) | exact HB.out)⟩⟩
                                                    case rest =>
                                                      clear HC43
                                                      try clear c1
                                                      try clear c2
                                                      try clear p2
                                                      try clear c3
                                                      try clear c4
                                                      try clear c5
                                                      try clear c5b0
                                                      try clear c5b1
                                                      try clear c6
                                                      try clear p6
                                                      try clear c7
                                                      try clear c7b0
                                                      try clear c7b1
                                                      try clear c9
                                                      try clear c9b0
                                                      try clear c9b1
                                                      try clear c10
                                                      try clear c14
                                                      try clear c14b0
                                                      try clear c14b1
                                                      try clear c15
                                                      try clear c19
                                                      try clear c19b0
                                                      try clear c19b1
                                                      try clear c20
                                                      try clear c24
                                                      try clear c24b0
                                                      try clear c24b1
                                                      try clear c25
                                                      try clear c26
                                                      try clear c27
                                                      try clear c30
                                                      try clear c30b0
                                                      try clear c30b1
                                                      try clear c31
                                                      try clear c34
                                                      try clear c34b0
                                                      try clear c34b1
                                                      try clear c35
                                                      try clear c36
                                                      try clear c37
                                                      try clear c38
                                                      try clear c39
                                                      try clear c39b0
                                                      try clear c39b1
                                                      try clear c40
                                                      try clear c44
                                                      try clear c44b0
                                                      try clear c44b1
                                                      try clear p2
                                                      try clear p6
                                                      obtain ⟨kq, x74_42, rfl, HA, HJ42, HB⟩ := hcut
                                                      cases kq with
                                                      | zero => exact absurd HA.out (by simp [vireoref05_Do.j8])
                                                      | succ kj42 =>
                                                        have H := HA.out
                                                        clear HA
                                                        simp only [vireoref05_Do.j8] at H
                                                        by_cases c45 : x74_42 = true
                                                        · subst c45
                                                          have H1 : ((vireoref05_bitwise.f kj42 a1 a2 2).bind fun t210 => (some (t210, true))) = some (r1, r2) := by rw [if_pos rfl] at H; exact H
                                                          clear H
                                                          have H := H1
                                                          clear H1
                                                          replace H := Option.bind_eq_some_iff.mp H
                                                          obtain ⟨t210, A460, H⟩ := H
                                                          replace H : (some (t210, true)) = some (r1, r2) := H
                                                          have A46 := Aside0.mk A460
                                                          clear A460
                                                          simp only [Option.some.injEq, Prod.mk.injEq] at H
                                                          obtain ⟨rfl, rfl⟩ := H
                                                          go_wp2_with (first | ((with_reducible refine gate_callee (f := 39) rfl ?_); refine goesL_ (some 79) rfl rfl Try.func39 (by kernel_rfl) rfl #[.int .u64 a1, .int .u64 a2, .int .i64 2] rfl (by (try simp only [List.map_toArray, List.map_cons, List.map_nil]); first | done | rfl | (simp only [List.length_drop, List.length_take]; rfl)) ?_; (with_reducible refine (vireoref05_bitwise.calls kj42 a1 a2 2 t210 _ A46.out).mono ?_); rintro e w47 ⟨rfl, hb⟩; refine ⟨_, rfl, ?_⟩; have n0_ := Aside0.mk (below_step (by repeat (first | (with_reducible first | exact HB.out | apply below_alloc | apply pw_below_drewN | apply below_drew1) | exact HB.out)) hb); clear HB; have HB := n0_; clear n0_; (try clear hb); (try clear hb2); (try clear hk); (try clear hi)))
                                                          go_ret2
                                                          exact ⟨by first | rfl | (simp [errW_none, errW_some] <;> rfl) | (simp [*, errW_none, errW_some] <;> rfl) | (exfalso; simp_all; done), by repeat (first | (with_reducible first | exact HB.out | apply below_alloc | apply pw_below_drewN | apply below_drew1) | exact HB.out)⟩
                                                        · replace c45 := Bool.eq_false_iff.mpr c45
                                                          subst c45
                                                          have H1 : (if a0 = 45 then (vireoref05_Do.j9 kj42 a1 a2 (wrap64 (Int.tmod a2 32)) a0 (a0 == 45)) else (vireoref05_Do.j9 kj42 a1 a2 (wrap64 (Int.tmod a2 32)) a0 (a0 == 41))) = some (r1, r2) := by rw [if_neg (show ¬ (false = true) by decide)] at H; exact H
                                                          clear H
                                                          have H := H1
                                                          clear H1
                                                          have HC48 := Aside0.mk H
                                                          clear H
                                                          go_upto_if 80 with (fail)
                                                          go_cut [80] (fun v80 wc => ∃ (kq : Nat) (x80_47 : Bool), v80 = .bool x80_47 ∧ Aside0 (vireoref05_Do.j9 kq a1 a2 (wrap64 (Int.tmod a2 32)) a0 x80_47 = some (r1, r2)) ∧ Aside0 (kq ≤ kj42) ∧ Aside0 (Below w.heap.size w wc))
                                                          case first =>
                                                            have H := HC48.out
                                                            clear HC48
                                                            by_cases c49 : a0 = 45
                                                            · rw [if_pos c49] at H
                                                              have c49b0 : (a0 == 45) = true := beq_iff_eq.mpr c49
                                                              have c49b1 : (a0 != 45) = false := bne_eq_false_iff_eq.mpr c49
                                                              clear c49
                                                              (first | rw [c49b0] | (simp only [i64_w, i32_w]; rw [c49b0]) | skip)
                                                              have H' := Aside0.mk H
                                                              clear H
                                                              go_wp2
                                                              go_meet
                                                              case rel => exact ⟨_, ((a0 == 45)), (by first | rfl | (simp; done) | (simp [*]; done) | (exfalso; simp_all; done)), H', ⟨by have := HJ3.out; have := HJ7.out; have := HJ12.out; have := HJ17.out; have := HJ22.out; have := HJ28.out; have := HJ32.out; have := HJ37.out; have := HJ42.out; first | omega | exact Nat.le_refl _⟩, ⟨by repeat (first | (with_reducible first | exact HB.out | apply below_alloc | apply pw_below_drewN | apply below_drew1) | exact HB.out)⟩⟩
                                                            · rw [if_neg c49] at H
                                                              have c49b0 : (a0 == 45) = false := beq_eq_false_iff_ne.mpr c49
                                                              have c49b1 : (a0 != 45) = true := bne_iff_ne.mpr c49
                                                              (first | rw [c49b0] | (simp only [i64_w, i32_w]; rw [c49b0]) | skip)
                                                              have H' := Aside0.mk H
                                                              clear H
                                                              go_wp2
                                                              go_meet
                                                              case rel => exact ⟨_, ((a0 == 41)), (by first | rfl | (simp; done) | (simp [*]; done) | (exfalso; simp_all; done)), H', ⟨by have := HJ3.out; have := HJ7.out; have := HJ12.out; have := HJ17.out; have := HJ22.out; have := HJ28.out; have := HJ32.out; have := HJ37.out; have := HJ42.out; first | omega | exact Nat.le_refl _⟩, ⟨by repeat (first | (with_reducible first | exact HB.out | apply below_alloc | apply pw_below_drewN | apply below_drew1) | exact HB.out)⟩⟩
                                                          case rest =>
                                                            clear HC48
                                                            try clear c1
                                                            try clear c2
                                                            try clear p2
                                                            try clear c3
                                                            try clear c4
                                                            try clear c5
                                                            try clear c5b0
                                                            try clear c5b1
                                                            try clear c6
                                                            try clear p6
                                                            try clear c7
                                                            try clear c7b0
                                                            try clear c7b1
                                                            try clear c9
                                                            try clear c9b0
                                                            try clear c9b1
                                                            try clear c10
                                                            try clear c14
                                                            try clear c14b0
                                                            try clear c14b1
                                                            try clear c15
                                                            try clear c19
                                                            try clear c19b0
                                                            try clear c19b1
                                                            try clear c20
                                                            try clear c24
                                                            try clear c24b0
                                                            try clear c24b1
                                                            try clear c25
                                                            try clear c26
                                                            try clear c27
                                                            try clear c30
                                                            try clear c30b0
                                                            try clear c30b1
                                                            try clear c31
                                                            try clear c34
                                                            try clear c34b0
                                                            try clear c34b1
                                                            try clear c35
                                                            try clear c36
                                                            try clear c37
                                                            try clear c38
                                                            try clear c39
                                                            try clear c39b0
                                                            try clear c39b1
                                                            try clear c40
                                                            try clear c44
                                                            try clear c44b0
                                                            try clear c44b1
                                                            try clear c45
                                                            try clear c49
                                                            try clear c49b0
                                                            try clear c49b1
                                                            try clear p2
                                                            try clear p6
                                                            obtain ⟨kq, x80_47, rfl, HA, HJ47, HB⟩ := hcut
                                                            cases kq with
                                                            | zero => exact absurd HA.out (by simp [vireoref05_Do.j9])
                                                            | succ kj47 =>
                                                              have H := HA.out
                                                              clear HA
                                                              simp only [vireoref05_Do.j9] at H
                                                              by_cases c50 : x80_47 = true
                                                              · subst c50
                                                                have H1 : ((vireoref01_Sext.f kj47 (Int.tmod (IntKind.u64.wrap ((Int.tmod a1 4294967296) + (Int.tmod a2 4294967296))) 4294967296) 32).bind fun t211 => (some (t211, true))) = some (r1, r2) := by rw [if_pos rfl] at H; exact H
                                                                clear H
                                                                have H := H1
                                                                clear H1
                                                                replace H := Option.bind_eq_some_iff.mp H
                                                                obtain ⟨t211, A510, H⟩ := H
                                                                replace H : (some (t211, true)) = some (r1, r2) := H
                                                                have A51 := Aside0.mk A510
                                                                clear A510
                                                                simp only [Option.some.injEq, Prod.mk.injEq] at H
                                                                obtain ⟨rfl, rfl⟩ := H
                                                                go_wp2_with (first | ((with_reducible refine gate_callee (f := 25) rfl ?_); refine goesL_ (some 89) rfl rfl Try.func25 (by kernel_rfl) rfl #[.int .u64 (Int.tmod (IntKind.u64.wrap ((Int.tmod a1 4294967296) + (Int.tmod a2 4294967296))) 4294967296), .int .i64 32] rfl (by (try simp only [List.map_toArray, List.map_cons, List.map_nil]); first | done | rfl | (simp only [List.length_drop, List.length_take]; rfl)) ?_; (with_reducible refine (vireoref01_Sext.calls kj47 (Int.tmod (IntKind.u64.wrap ((Int.tmod a1 4294967296) + (Int.tmod a2 4294967296))) 4294967296) 32 t211 _ A51.out).mono ?_); rintro e w52 ⟨rfl, hb⟩; refine ⟨_, rfl, ?_⟩; have n0_ := Aside0.mk (below_step (by repeat (first | (with_reducible first | exact HB.out | apply below_alloc | apply pw_below_drewN | apply below_drew1) | exact HB.out)) hb); clear HB; have HB := n0_; clear n0_; (try clear hb); (try clear hb2); (try clear hk); (try clear hi)))
                                                                go_ret2
                                                                exact ⟨by first | rfl | (simp [errW_none, errW_some] <;> rfl) | (simp [*, errW_none, errW_some] <;> rfl) | (exfalso; simp_all; done), by repeat (first | (with_reducible first | exact HB.out | apply below_alloc | apply pw_below_drewN | apply below_drew1) | exact HB.out)⟩
                                                              · replace c50 := Bool.eq_false_iff.mpr c50
                                                                subst c50
                                                                have H1 : (if a0 = 46 then ((vireoref01_Sext.f kj47 (Int.tmod (IntKind.u64.wrap ((IntKind.u64.wrap ((Int.tmod a1 4294967296) + 4294967296)) - (Int.tmod a2 4294967296))) 4294967296) 32).bind fun t212 => (some (t212, true))) else (if a0 = 47 then (vireoref05_Do.j10 kj47 a1 (wrap64 (Int.tmod a2 32)) a0 (a0 == 47)) else (vireoref05_Do.j10 kj47 a1 (wrap64 (Int.tmod a2 32)) a0 (a0 == 42)))) = some (r1, r2) := by rw [if_neg (show ¬ (false = true) by decide)] at H; exact H
                                                                clear H
                                                                have H := H1
                                                                clear H1
                                                                by_cases c53 : a0 = 46
                                                                · rw [if_pos c53] at H
                                                                  have c53b0 : (a0 == 46) = true := beq_iff_eq.mpr c53
                                                                  have c53b1 : (a0 != 46) = false := bne_eq_false_iff_eq.mpr c53
                                                                  clear c53
                                                                  replace H := Option.bind_eq_some_iff.mp H
                                                                  obtain ⟨t212, A540, H⟩ := H
                                                                  replace H : (some (t212, true)) = some (r1, r2) := H
                                                                  have A54 := Aside0.mk A540
                                                                  clear A540
                                                                  simp only [Option.some.injEq, Prod.mk.injEq] at H
                                                                  obtain ⟨rfl, rfl⟩ := H
                                                                  go_wp2_with (first | ((with_reducible refine gate_callee (f := 25) rfl ?_); refine goesL_ (some 99) rfl rfl Try.func25 (by kernel_rfl) rfl #[.int .u64 (Int.tmod (IntKind.u64.wrap ((IntKind.u64.wrap ((Int.tmod a1 4294967296) + 4294967296)) - (Int.tmod a2 4294967296))) 4294967296), .int .i64 32] rfl (by (try simp only [List.map_toArray, List.map_cons, List.map_nil]); first | done | rfl | (simp only [List.length_drop, List.length_take]; rfl)) ?_; (with_reducible refine (vireoref01_Sext.calls kj47 (Int.tmod (IntKind.u64.wrap ((IntKind.u64.wrap ((Int.tmod a1 4294967296) + 4294967296)) - (Int.tmod a2 4294967296))) 4294967296) 32 t212 _ A54.out).mono ?_); rintro e w55 ⟨rfl, hb⟩; refine ⟨_, rfl, ?_⟩; have n0_ := Aside0.mk (below_step (by repeat (first | (with_reducible first | exact HB.out | apply below_alloc | apply pw_below_drewN | apply below_drew1) | exact HB.out)) hb); clear HB; have HB := n0_; clear n0_; (try clear hb); (try clear hb2); (try clear hk); (try clear hi)))
                                                                  go_ret2
                                                                  exact ⟨by first | rfl | (simp [errW_none, errW_some] <;> rfl) | (simp [*, errW_none, errW_some] <;> rfl) | (exfalso; simp_all; done), by repeat (first | (with_reducible first | exact HB.out | apply below_alloc | apply pw_below_drewN | apply below_drew1) | exact HB.out)⟩
                                                                · rw [if_neg c53] at H
                                                                  have c53b0 : (a0 == 46) = false := beq_eq_false_iff_ne.mpr c53
                                                                  have c53b1 : (a0 != 46) = true := bne_iff_ne.mpr c53
                                                                  have HC56 := Aside0.mk H
                                                                  clear H
                                                                  go_upto_if 100 with (fail)
                                                                  go_cut [100] (fun v100 wc => ∃ (kq : Nat) (x100_55 : Bool), v100 = .bool x100_55 ∧ Aside0 (vireoref05_Do.j10 kq a1 (wrap64 (Int.tmod a2 32)) a0 x100_55 = some (r1, r2)) ∧ Aside0 (kq ≤ kj47) ∧ Aside0 (Below w.heap.size w wc))
                                                                  case first =>
                                                                    have H := HC56.out
                                                                    clear HC56
                                                                    by_cases c57 : a0 = 47
                                                                    · rw [if_pos c57] at H
                                                                      have c57b0 : (a0 == 47) = true := beq_iff_eq.mpr c57
                                                                      have c57b1 : (a0 != 47) = false := bne_eq_false_iff_eq.mpr c57
                                                                      clear c57
                                                                      (first | rw [c57b0] | (simp only [i64_w, i32_w]; rw [c57b0]) | skip)
                                                                      have H' := Aside0.mk H
                                                                      clear H
                                                                      go_wp2
                                                                      go_meet
                                                                      case rel => exact ⟨_, ((a0 == 47)), (by first | rfl | (simp; done) | (simp [*]; done) | (exfalso; simp_all; done)), H', ⟨by have := HJ3.out; have := HJ7.out; have := HJ12.out; have := HJ17.out; have := HJ22.out; have := HJ28.out; have := HJ32.out; have := HJ37.out; have := HJ42.out; have := HJ47.out; first | omega | exact Nat.le_refl _⟩, ⟨by repeat (first | (with_reducible first | exact HB.out | apply below_alloc | apply pw_below_drewN | apply below_drew1) | exact HB.out)⟩⟩
                                                                    · rw [if_neg c57] at H
                                                                      have c57b0 : (a0 == 47) = false := beq_eq_false_iff_ne.mpr c57
                                                                      have c57b1 : (a0 != 47) = true := bne_iff_ne.mpr c57
                                                                      (first | rw [c57b0] | (simp only [i64_w, i32_w]; rw [c57b0]) | skip)
                                                                      have H' := Aside0.mk H
                                                                      clear H
                                                                      go_wp2
                                                                      go_meet
                                                                      case rel => exact ⟨_, ((a0 == 42)), (by first | rfl | (simp; done) | (simp [*]; done) | (exfalso; simp_all; done)), H', ⟨by have := HJ3.out; have := HJ7.out; have := HJ12.out; have := HJ17.out; have := HJ22.out; have := HJ28.out; have := HJ32.out; have := HJ37.out; have := HJ42.out; have := HJ47.out; first | omega | exact Nat.le_refl _⟩, ⟨by repeat (first | (with_reducible first | exact HB.out | apply below_alloc | apply pw_below_drewN | apply below_drew1) | exact HB.out)⟩⟩
                                                                  case rest =>
                                                                    clear HC56
                                                                    try clear c1
                                                                    try clear c2
                                                                    try clear p2
                                                                    try clear c3
                                                                    try clear c4
                                                                    try clear c5
                                                                    try clear c5b0
                                                                    try clear c5b1
                                                                    try clear c6
                                                                    try clear p6
                                                                    try clear c7
                                                                    try clear c7b0
                                                                    try clear c7b1
                                                                    try clear c9
                                                                    try clear c9b0
                                                                    try clear c9b1
                                                                    try clear c10
                                                                    try clear c14
                                                                    try clear c14b0
                                                                    try clear c14b1
                                                                    try clear c15
                                                                    try clear c19
                                                                    try clear c19b0
                                                                    try clear c19b1
                                                                    try clear c20
                                                                    try clear c24
                                                                    try clear c24b0
                                                                    try clear c24b1
                                                                    try clear c25
                                                                    try clear c26
                                                                    try clear c27
                                                                    try clear c30
                                                                    try clear c30b0
                                                                    try clear c30b1
                                                                    try clear c31
                                                                    try clear c34
                                                                    try clear c34b0
                                                                    try clear c34b1
                                                                    try clear c35
                                                                    try clear c36
                                                                    try clear c37
                                                                    try clear c38
                                                                    try clear c39
                                                                    try clear c39b0
                                                                    try clear c39b1
                                                                    try clear c40
                                                                    try clear c44
                                                                    try clear c44b0
                                                                    try clear c44b1
                                                                    try clear c45
                                                                    try clear c49
                                                                    try clear c49b0
                                                                    try clear c49b1
                                                                    try clear c50
                                                                    try clear c53
                                                                    try clear c53b0
                                                                    try clear c53b1
                                                                    try clear c57
                                                                    try clear c57b0
                                                                    try clear c57b1
                                                                    try clear p2
                                                                    try clear p6
                                                                    obtain ⟨kq, x100_55, rfl, HA, HJ55, HB⟩ := hcut
                                                                    cases kq with
                                                                    | zero => exact absurd HA.out (by simp [vireoref05_Do.j10])
                                                                    | succ kj55 =>
                                                                      have H := HA.out
                                                                      clear HA
                                                                      simp only [vireoref05_Do.j10] at H
                                                                      by_cases c58 : x100_55 = true
                                                                      · subst c58
                                                                        have H1 : ((vireoref05_left.f kj55 a1 (wrap64 (Int.tmod a2 32)) 32).bind fun t213 => ((vireoref01_Sext.f kj55 t213 32).bind fun t214 => (some (t214, true)))) = some (r1, r2) := by rw [if_pos rfl] at H; exact H
                                                                        clear H
                                                                        have H := H1
                                                                        clear H1
                                                                        replace H := Option.bind_eq_some_iff.mp H
                                                                        obtain ⟨t213, A590, H⟩ := H
                                                                        replace H : ((vireoref01_Sext.f kj55 t213 32).bind fun t214 => (some (t214, true))) = some (r1, r2) := H
                                                                        have A59 := Aside0.mk A590
                                                                        clear A590
                                                                        replace H := Option.bind_eq_some_iff.mp H
                                                                        obtain ⟨t214, A600, H⟩ := H
                                                                        replace H : (some (t214, true)) = some (r1, r2) := H
                                                                        have A60 := Aside0.mk A600
                                                                        clear A600
                                                                        simp only [Option.some.injEq, Prod.mk.injEq] at H
                                                                        obtain ⟨rfl, rfl⟩ := H
                                                                        go_wp2_with (first | ((with_reducible refine gate_callee (f := 36) rfl ?_); refine goesL_ (some 105) rfl rfl Try.func36 (by kernel_rfl) rfl #[.int .u64 a1, .int .i64 (wrap64 (Int.tmod a2 32)), .int .i64 32] rfl (by (try simp only [List.map_toArray, List.map_cons, List.map_nil]); first | done | rfl | (simp only [List.length_drop, List.length_take]; rfl)) ?_; (with_reducible refine (vireoref05_left.calls kj55 a1 (wrap64 (Int.tmod a2 32)) 32 t213 _ A59.out).mono ?_); rintro e w61 ⟨rfl, hb⟩; refine ⟨_, rfl, ?_⟩; have n0_ := Aside0.mk (below_step (by repeat (first | (with_reducible first | exact HB.out | apply below_alloc | apply pw_below_drewN | apply below_drew1) | exact HB.out)) hb); clear HB; have HB := n0_; clear n0_; (try clear hb); (try clear hb2); (try clear hk); (try clear hi)) | ((with_reducible refine gate_callee (f := 25) rfl ?_); refine goesL_ (some 106) rfl rfl Try.func25 (by kernel_rfl) rfl #[.int .u64 t213, .int .i64 32] rfl (by (try simp only [List.map_toArray, List.map_cons, List.map_nil]); first | done | rfl | (simp only [List.length_drop, List.length_take]; rfl)) ?_; (with_reducible refine (vireoref01_Sext.calls kj55 t213 32 t214 _ A60.out).mono ?_); rintro e w62 ⟨rfl, hb⟩; refine ⟨_, rfl, ?_⟩; have n0_ := Aside0.mk (below_step (by repeat (first | (with_reducible first | exact HB.out | apply below_alloc | apply pw_below_drewN | apply below_drew1) | exact HB.out)) hb); clear HB; have HB := n0_; clear n0_; (try clear hb); (try clear hb2); (try clear hk); (try clear hi)))
                                                                        go_ret2
                                                                        exact ⟨by first | rfl | (simp [errW_none, errW_some] <;> rfl) | (simp [*, errW_none, errW_some] <;> rfl) | (exfalso; simp_all; done), by repeat (first | (with_reducible first | exact HB.out | apply below_alloc | apply pw_below_drewN | apply below_drew1) | exact HB.out)⟩
                                                                      · replace c58 := Bool.eq_false_iff.mpr c58
                                                                        subst c58
                                                                        have H1 : (if a0 = 48 then (vireoref05_Do.j11 kj55 a1 (wrap64 (Int.tmod a2 32)) a0 (a0 == 48)) else (vireoref05_Do.j11 kj55 a1 (wrap64 (Int.tmod a2 32)) a0 (a0 == 43))) = some (r1, r2) := by rw [if_neg (show ¬ (false = true) by decide)] at H; exact H
                                                                        clear H
                                                                        have H := H1
                                                                        clear H1
                                                                        have HC63 := Aside0.mk H
                                                                        clear H
                                                                        go_upto_if 107 with (fail)
                                                                        go_cut [107] (fun v107 wc => ∃ (kq : Nat) (x107_62 : Bool), v107 = .bool x107_62 ∧ Aside0 (vireoref05_Do.j11 kq a1 (wrap64 (Int.tmod a2 32)) a0 x107_62 = some (r1, r2)) ∧ Aside0 (kq ≤ kj55) ∧ Aside0 (Below w.heap.size w wc))
                                                                        case first =>
                                                                          have H := HC63.out
                                                                          clear HC63
                                                                          by_cases c64 : a0 = 48
                                                                          · rw [if_pos c64] at H
                                                                            have c64b0 : (a0 == 48) = true := beq_iff_eq.mpr c64
                                                                            have c64b1 : (a0 != 48) = false := bne_eq_false_iff_eq.mpr c64
                                                                            clear c64
                                                                            (first | rw [c64b0] | (simp only [i64_w, i32_w]; rw [c64b0]) | skip)
                                                                            have H' := Aside0.mk H
                                                                            clear H
                                                                            go_wp2
                                                                            go_meet
                                                                            case rel => exact ⟨_, ((a0 == 48)), (by first | rfl | (simp; done) | (simp [*]; done) | (exfalso; simp_all; done)), H', ⟨by have := HJ3.out; have := HJ7.out; have := HJ12.out; have := HJ17.out; have := HJ22.out; have := HJ28.out; have := HJ32.out; have := HJ37.out; have := HJ42.out; have := HJ47.out; have := HJ55.out; first | omega | exact Nat.le_refl _⟩, ⟨by repeat (first | (with_reducible first | exact HB.out | apply below_alloc | apply pw_below_drewN | apply below_drew1) | exact HB.out)⟩⟩
                                                                          · rw [if_neg c64] at H
                                                                            have c64b0 : (a0 == 48) = false := beq_eq_false_iff_ne.mpr c64
                                                                            have c64b1 : (a0 != 48) = true := bne_iff_ne.mpr c64
                                                                            (first | rw [c64b0] | (simp only [i64_w, i32_w]; rw [c64b0]) | skip)
                                                                            have H' := Aside0.mk H
                                                                            clear H
                                                                            go_wp2
                                                                            go_meet
                                                                            case rel => exact ⟨_, ((a0 == 43)), (by first | rfl | (simp; done) | (simp [*]; done) | (exfalso; simp_all; done)), H', ⟨by have := HJ3.out; have := HJ7.out; have := HJ12.out; have := HJ17.out; have := HJ22.out; have := HJ28.out; have := HJ32.out; have := HJ37.out; have := HJ42.out; have := HJ47.out; have := HJ55.out; first | omega | exact Nat.le_refl _⟩, ⟨by repeat (first | (with_reducible first | exact HB.out | apply below_alloc | apply pw_below_drewN | apply below_drew1) | exact HB.out)⟩⟩
                                                                        case rest =>
                                                                          clear HC63
                                                                          try clear c1
                                                                          try clear c2
                                                                          try clear p2
                                                                          try clear c3
                                                                          try clear c4
                                                                          try clear c5
                                                                          try clear c5b0
                                                                          try clear c5b1
                                                                          try clear c6
                                                                          try clear p6
                                                                          try clear c7
                                                                          try clear c7b0
                                                                          try clear c7b1
                                                                          try clear c9
                                                                          try clear c9b0
                                                                          try clear c9b1
                                                                          try clear c10
                                                                          try clear c14
                                                                          try clear c14b0
                                                                          try clear c14b1
                                                                          try clear c15
                                                                          try clear c19
                                                                          try clear c19b0
                                                                          try clear c19b1
                                                                          try clear c20
                                                                          try clear c24
                                                                          try clear c24b0
                                                                          try clear c24b1
                                                                          try clear c25
                                                                          try clear c26
                                                                          try clear c27
                                                                          try clear c30
                                                                          try clear c30b0
                                                                          try clear c30b1
                                                                          try clear c31
                                                                          try clear c34
                                                                          try clear c34b0
                                                                          try clear c34b1
                                                                          try clear c35
                                                                          try clear c36
                                                                          try clear c37
                                                                          try clear c38
                                                                          try clear c39
                                                                          try clear c39b0
                                                                          try clear c39b1
                                                                          try clear c40
                                                                          try clear c44
                                                                          try clear c44b0
                                                                          try clear c44b1
                                                                          try clear c45
                                                                          try clear c49
                                                                          try clear c49b0
                                                                          try clear c49b1
                                                                          try clear c50
                                                                          try clear c53
                                                                          try clear c53b0
                                                                          try clear c53b1
                                                                          try clear c57
                                                                          try clear c57b0
                                                                          try clear c57b1
                                                                          try clear c58
                                                                          try clear c64
                                                                          try clear c64b0
                                                                          try clear c64b1
                                                                          try clear p64
                                                                          try clear p2
                                                                          try clear p6
                                                                          obtain ⟨kq, x107_62, rfl, HA, HJ62, HB⟩ := hcut
                                                                          cases kq with
                                                                          | zero => exact absurd HA.out (by simp [vireoref05_Do.j11])
                                                                          | succ kj62 =>
                                                                            have H := HA.out
                                                                            clear HA
                                                                            simp only [vireoref05_Do.j11] at H
                                                                            by_cases c65 : x107_62 = true
                                                                            · subst c65
                                                                              have H1 : ((vireoref05_right.f kj62 a1 (wrap64 (Int.tmod a2 32)) 32 false).bind fun t215 => ((vireoref01_Sext.f kj62 t215 32).bind fun t216 => (some (t216, true)))) = some (r1, r2) := by rw [if_pos rfl] at H; exact H
                                                                              clear H
                                                                              have H := H1
                                                                              clear H1
                                                                              replace H := Option.bind_eq_some_iff.mp H
                                                                              obtain ⟨t215, A660, H⟩ := H
                                                                              replace H : ((vireoref01_Sext.f kj62 t215 32).bind fun t216 => (some (t216, true))) = some (r1, r2) := H
                                                                              have A66 := Aside0.mk A660
                                                                              clear A660
                                                                              replace H := Option.bind_eq_some_iff.mp H
                                                                              obtain ⟨t216, A670, H⟩ := H
                                                                              replace H : (some (t216, true)) = some (r1, r2) := H
                                                                              have A67 := Aside0.mk A670
                                                                              clear A670
                                                                              simp only [Option.some.injEq, Prod.mk.injEq] at H
                                                                              obtain ⟨rfl, rfl⟩ := H
                                                                              go_wp2_with (first | ((with_reducible refine gate_callee (f := 37) rfl ?_); refine goesL_ (some 112) rfl rfl Try.func37 (by kernel_rfl) rfl #[.int .u64 a1, .int .i64 (wrap64 (Int.tmod a2 32)), .int .i64 32, .bool false] rfl (by (try simp only [List.map_toArray, List.map_cons, List.map_nil]); first | done | rfl | (simp only [List.length_drop, List.length_take]; rfl)) ?_; (with_reducible refine (vireoref05_right.calls kj62 a1 (wrap64 (Int.tmod a2 32)) 32 false t215 _ A66.out).mono ?_); rintro e w68 ⟨rfl, hb⟩; refine ⟨_, rfl, ?_⟩; have n0_ := Aside0.mk (below_step (by repeat (first | (with_reducible first | exact HB.out | apply below_alloc | apply pw_below_drewN | apply below_drew1) | exact HB.out)) hb); clear HB; have HB := n0_; clear n0_; (try clear hb); (try clear hb2); (try clear hk); (try clear hi)) | ((with_reducible refine gate_callee (f := 25) rfl ?_); refine goesL_ (some 113) rfl rfl Try.func25 (by kernel_rfl) rfl #[.int .u64 t215, .int .i64 32] rfl (by (try simp only [List.map_toArray, List.map_cons, List.map_nil]); first | done | rfl | (simp only [List.length_drop, List.length_take]; rfl)) ?_; (with_reducible refine (vireoref01_Sext.calls kj62 t215 32 t216 _ A67.out).mono ?_); rintro e w69 ⟨rfl, hb⟩; refine ⟨_, rfl, ?_⟩; have n0_ := Aside0.mk (below_step (by repeat (first | (with_reducible first | exact HB.out | apply below_alloc | apply pw_below_drewN | apply below_drew1) | exact HB.out)) hb); clear HB; have HB := n0_; clear n0_; (try clear hb); (try clear hb2); (try clear hk); (try clear hi)))
                                                                              go_ret2
                                                                              exact ⟨by first | rfl | (simp [errW_none, errW_some] <;> rfl) | (simp [*, errW_none, errW_some] <;> rfl) | (exfalso; simp_all; done), by repeat (first | (with_reducible first | exact HB.out | apply below_alloc | apply pw_below_drewN | apply below_drew1) | exact HB.out)⟩
                                                                            · replace c65 := Bool.eq_false_iff.mpr c65
                                                                              subst c65
                                                                              have H1 : (if a0 = 49 then (vireoref05_Do.j12 kj62 a1 (wrap64 (Int.tmod a2 32)) (a0 == 49)) else (vireoref05_Do.j12 kj62 a1 (wrap64 (Int.tmod a2 32)) (a0 == 44))) = some (r1, r2) := by rw [if_neg (show ¬ (false = true) by decide)] at H; exact H
                                                                              clear H
                                                                              have H := H1
                                                                              clear H1
                                                                              have HC70 := Aside0.mk H
                                                                              clear H
                                                                              go_upto_if 114 with (fail)
                                                                              go_cut [114] (fun v114 wc => ∃ (kq : Nat) (x114_69 : Bool), v114 = .bool x114_69 ∧ Aside0 (vireoref05_Do.j12 kq a1 (wrap64 (Int.tmod a2 32)) x114_69 = some (r1, r2)) ∧ Aside0 (kq ≤ kj62) ∧ Aside0 (Below w.heap.size w wc))
                                                                              case first =>
                                                                                have H := HC70.out
                                                                                clear HC70
                                                                                by_cases c71 : a0 = 49
                                                                                · rw [if_pos c71] at H
                                                                                  have c71b0 : (a0 == 49) = true := beq_iff_eq.mpr c71
                                                                                  have c71b1 : (a0 != 49) = false := bne_eq_false_iff_eq.mpr c71
                                                                                  clear c71
                                                                                  (first | rw [c71b0] | (simp only [i64_w, i32_w]; rw [c71b0]) | skip)
                                                                                  have H' := Aside0.mk H
                                                                                  clear H
                                                                                  go_wp2
                                                                                  go_meet
                                                                                  case rel => exact ⟨_, ((a0 == 49)), (by first | rfl | (simp; done) | (simp [*]; done) | (exfalso; simp_all; done)), H', ⟨by have := HJ3.out; have := HJ7.out; have := HJ12.out; have := HJ17.out; have := HJ22.out; have := HJ28.out; have := HJ32.out; have := HJ37.out; have := HJ42.out; have := HJ47.out; have := HJ55.out; have := HJ62.out; first | omega | exact Nat.le_refl _⟩, ⟨by repeat (first | (with_reducible first | exact HB.out | apply below_alloc | apply pw_below_drewN | apply below_drew1) | exact HB.out)⟩⟩
                                                                                · rw [if_neg c71] at H
                                                                                  have c71b0 : (a0 == 49) = false := beq_eq_false_iff_ne.mpr c71
                                                                                  have c71b1 : (a0 != 49) = true := bne_iff_ne.mpr c71
                                                                                  (first | rw [c71b0] | (simp only [i64_w, i32_w]; rw [c71b0]) | skip)
                                                                                  have H' := Aside0.mk H
                                                                                  clear H
                                                                                  go_wp2
                                                                                  go_meet
                                                                                  case rel => exact ⟨_, ((a0 == 44)), (by first | rfl | (simp; done) | (simp [*]; done) | (exfalso; simp_all; done)), H', ⟨by have := HJ3.out; have := HJ7.out; have := HJ12.out; have := HJ17.out; have := HJ22.out; have := HJ28.out; have := HJ32.out; have := HJ37.out; have := HJ42.out; have := HJ47.out; have := HJ55.out; have := HJ62.out; first | omega | exact Nat.le_refl _⟩, ⟨by repeat (first | (with_reducible first | exact HB.out | apply below_alloc | apply pw_below_drewN | apply below_drew1) | exact HB.out)⟩⟩
                                                                              case rest =>
                                                                                clear HC70
                                                                                try clear c1
                                                                                try clear c2
                                                                                try clear p2
                                                                                try clear c3
                                                                                try clear c4
                                                                                try clear c5
                                                                                try clear c5b0
                                                                                try clear c5b1
                                                                                try clear c6
                                                                                try clear p6
                                                                                try clear c7
                                                                                try clear c7b0
                                                                                try clear c7b1
                                                                                try clear c9
                                                                                try clear c9b0
                                                                                try clear c9b1
                                                                                try clear c10
                                                                                try clear c14
                                                                                try clear c14b0
                                                                                try clear c14b1
                                                                                try clear c15
                                                                                try clear c19
                                                                                try clear c19b0
                                                                                try clear c19b1
                                                                                try clear c20
                                                                                try clear c24
                                                                                try clear c24b0
                                                                                try clear c24b1
                                                                                try clear c25
                                                                                try clear c26
                                                                                try clear c27
                                                                                try clear c30
                                                                                try clear c30b0
                                                                                try clear c30b1
                                                                                try clear c31
                                                                                try clear c34
                                                                                try clear c34b0
                                                                                try clear c34b1
                                                                                try clear c35
                                                                                try clear c36
                                                                                try clear c37
                                                                                try clear c38
                                                                                try clear c39
                                                                                try clear c39b0
                                                                                try clear c39b1
                                                                                try clear c40
                                                                                try clear c44
                                                                                try clear c44b0
                                                                                try clear c44b1
                                                                                try clear c45
                                                                                try clear c49
                                                                                try clear c49b0
                                                                                try clear c49b1
                                                                                try clear c50
                                                                                try clear c53
                                                                                try clear c53b0
                                                                                try clear c53b1
                                                                                try clear c57
                                                                                try clear c57b0
                                                                                try clear c57b1
                                                                                try clear c58
                                                                                try clear c64
                                                                                try clear c64b0
                                                                                try clear c64b1
                                                                                try clear p64
                                                                                try clear c65
                                                                                try clear c71
                                                                                try clear c71b0
                                                                                try clear c71b1
                                                                                try clear p2
                                                                                try clear p6
                                                                                try clear p64
                                                                                obtain ⟨kq, x114_69, rfl, HA, HJ69, HB⟩ := hcut
                                                                                cases kq with
                                                                                | zero => exact absurd HA.out (by simp [vireoref05_Do.j12])
                                                                                | succ kj69 =>
                                                                                  have H := HA.out
                                                                                  clear HA
                                                                                  simp only [vireoref05_Do.j12] at H
                                                                                  by_cases c72 : x114_69 = true
                                                                                  · subst c72
                                                                                    have H1 : ((vireoref05_right.f kj69 a1 (wrap64 (Int.tmod a2 32)) 32 true).bind fun t217 => ((vireoref01_Sext.f kj69 t217 32).bind fun t218 => (some (t218, true)))) = some (r1, r2) := by rw [if_pos rfl] at H; exact H
                                                                                    clear H
                                                                                    have H := H1
                                                                                    clear H1
                                                                                    replace H := Option.bind_eq_some_iff.mp H
                                                                                    obtain ⟨t217, A730, H⟩ := H
                                                                                    replace H : ((vireoref01_Sext.f kj69 t217 32).bind fun t218 => (some (t218, true))) = some (r1, r2) := H
                                                                                    have A73 := Aside0.mk A730
                                                                                    clear A730
                                                                                    replace H := Option.bind_eq_some_iff.mp H
                                                                                    obtain ⟨t218, A740, H⟩ := H
                                                                                    replace H : (some (t218, true)) = some (r1, r2) := H
                                                                                    have A74 := Aside0.mk A740
                                                                                    clear A740
                                                                                    simp only [Option.some.injEq, Prod.mk.injEq] at H
                                                                                    obtain ⟨rfl, rfl⟩ := H
                                                                                    go_wp2_with (first | ((with_reducible refine gate_callee (f := 37) rfl ?_); refine goesL_ (some 119) rfl rfl Try.func37 (by kernel_rfl) rfl #[.int .u64 a1, .int .i64 (wrap64 (Int.tmod a2 32)), .int .i64 32, .bool true] rfl (by (try simp only [List.map_toArray, List.map_cons, List.map_nil]); first | done | rfl | (simp only [List.length_drop, List.length_take]; rfl)) ?_; (with_reducible refine (vireoref05_right.calls kj69 a1 (wrap64 (Int.tmod a2 32)) 32 true t217 _ A73.out).mono ?_); rintro e w75 ⟨rfl, hb⟩; refine ⟨_, rfl, ?_⟩; have n0_ := Aside0.mk (below_step (by repeat (first | (with_reducible first | exact HB.out | apply below_alloc | apply pw_below_drewN | apply below_drew1) | exact HB.out)) hb); clear HB; have HB := n0_; clear n0_; (try clear hb); (try clear hb2); (try clear hk); (try clear hi)) | ((with_reducible refine gate_callee (f := 25) rfl ?_); refine goesL_ (some 120) rfl rfl Try.func25 (by kernel_rfl) rfl #[.int .u64 t217, .int .i64 32] rfl (by (try simp only [List.map_toArray, List.map_cons, List.map_nil]); first | done | rfl | (simp only [List.length_drop, List.length_take]; rfl)) ?_; (with_reducible refine (vireoref01_Sext.calls kj69 t217 32 t218 _ A74.out).mono ?_); rintro e w76 ⟨rfl, hb⟩; refine ⟨_, rfl, ?_⟩; have n0_ := Aside0.mk (below_step (by repeat (first | (with_reducible first | exact HB.out | apply below_alloc | apply pw_below_drewN | apply below_drew1) | exact HB.out)) hb); clear HB; have HB := n0_; clear n0_; (try clear hb); (try clear hb2); (try clear hk); (try clear hi)))
                                                                                    go_ret2
                                                                                    exact ⟨by first | rfl | (simp [errW_none, errW_some] <;> rfl) | (simp [*, errW_none, errW_some] <;> rfl) | (exfalso; simp_all; done), by repeat (first | (with_reducible first | exact HB.out | apply below_alloc | apply pw_below_drewN | apply below_drew1) | exact HB.out)⟩
                                                                                  · replace c72 := Bool.eq_false_iff.mpr c72
                                                                                    subst c72
                                                                                    have H1 : (some (0, false)) = some (r1, r2) := by rw [if_neg (show ¬ (false = true) by decide)] at H; exact H
                                                                                    clear H
                                                                                    have H := H1
                                                                                    clear H1
                                                                                    simp only [Option.some.injEq, Prod.mk.injEq] at H
                                                                                    obtain ⟨rfl, rfl⟩ := H
                                                                                    go_wp2
                                                                                    go_ret2
                                                                                    exact ⟨by first | rfl | (simp [errW_none, errW_some] <;> rfl) | (simp [*, errW_none, errW_some] <;> rfl) | (exfalso; simp_all; done), by repeat (first | (with_reducible first | exact HB.out | apply below_alloc | apply pw_below_drewN | apply below_drew1) | exact HB.out)⟩

end Go.Proofs.Ytkcbcehdpcjmhaa.PAll
