/- ClintTicks: ticks add up, and the timer's line is held up just from its mark on, for every mark and every list of ticks; no condition. -/
import Derived.Test.YtpodgoceheoogaaPFix8
import Derived.Test.YtpodgoceheoogaaS0
namespace Go.Proofs.Ytpodgoceheoogaa.PureClintTicks
open Go.RowKit Go.Proofs.Ytpodgoceheoogaa.PFi Go.Proofs.YtpodgoceheoogaaW.PrintWords Go.Proofs.YtpodgoceheoogaaW.PrintLast
open Go.Proofs.Ytpodgoceheoogaa.Vw Go.Proofs.Ytpodgoceheoogaa.Pure
set_option linter.unusedVariables false
set_option linter.unusedSimpArgs false

theorem awake_is : vireolaw11_awake.f = some true := by decide +kernel
theorem begin_is : clint_Begin.f = some (false, ((18446744073709551615 : Nat) : Int), ((0 : Nat) : Int)) := rfl
def nowW (l : List Int) : Nat → Nat
  | 0 => 0
  | i + 1 => (nowW l i + (rd l (i : Int)).toNat) % 18446744073709551616
theorem nowW_lt (l : List Int) (i : Nat) : nowW l i < 18446744073709551616 := by
  cases i with
  | zero => simp [nowW]
  | succ i => exact Nat.mod_lt _ (by decide)
theorem flag_is (b : Bool) : vireolaw11_flag.f b = some (if b then 1 else 0) := by cases b <;> rfl
theorem shr_u (c n : Nat) : IntKind.u64.wrap ((if decide ((n : Int) ≥ (c : Int)) = true then 1 else 0) * 128) = ((lines ⟨false, c, n⟩ : Nat) : Int) := by
  unfold lines
  by_cases h : c ≤ n
  · rw [decide_eq_true (by omega), if_pos rfl, if_neg Bool.false_ne_true, if_pos h, u64_id _ (by decide) (by decide)]; rfl
  · rw [decide_eq_false (by omega), if_neg Bool.false_ne_true, if_neg Bool.false_ne_true, if_neg h, u64_id _ (by decide) (by decide)]; rfl
theorem ticks_end (c : Nat) (l : List Int) (i k : Nat) (s : Bool) (x y : Int) : vireolaw11_ClintTicks.j1 (k + 1) (c : Int) l x (i : Int) false s x y = some true := by
  rw [vireolaw11_ClintTicks.j1, if_neg (by decide)]
theorem ticks_l (c : Nat) (l : List Int) (hl : ∀ i : Nat, 0 ≤ rd l (i : Int) ∧ rd l (i : Int) < 18446744073709551616) : ∀ (m k i : Nat), i + m = 60 →
    vireolaw11_ClintTicks.l0 (2 * m + k + 2) (c : Int) l (nowW l i : Int) (i : Int) false (c : Int) (nowW l i : Int) = some true
  | 0, k, i, hi => by
    rw [show 2 * 0 + k + 2 = (k + 1) + 1 by omega, vireolaw11_ClintTicks.l0]
    by_cases h : (i : Int) < (l.length : Int)
    · rw [if_pos h, decide_eq_false (by omega)]
      rw [vireolaw11_ClintTicks.j1, if_neg (by decide)]
    · rw [if_neg h, vireolaw11_ClintTicks.j1, if_neg (by decide)]
  | m + 1, k, i, hi => by
    rw [show 2 * (m + 1) + k + 2 = (2 * m + k + 2) + 1 + 1 by omega, vireolaw11_ClintTicks.l0]
    by_cases h : (i : Int) < (l.length : Int)
    · have hb := hl i
      have en : IntKind.u64.wrap ((nowW l i : Int) + rd l (i : Int)) = (nowW l (i + 1) : Int) := by
        rw [nowW, IntKind.wrap_u64]; omega
      have e2 : wrap64 ((i : Int) + 1) = ((i + 1 : Nat) : Int) := by rw [w64_id _ (by omega) (by omega)]; omega
      have el := Lines_is ⟨false, c, nowW l (i + 1)⟩
      rw [if_pos h, decide_eq_true (by omega), vireolaw11_ClintTicks.j1, if_pos rfl, if_pos (by omega), if_pos h]
      unfold clint_Clint_Tick.f
      rw [Option.bind_some]
      dsimp only at el ⊢
      rw [en, if_pos rfl, el, Option.bind_some, flag_is, Option.bind_some, shr_u, if_pos rfl, e2]
      exact ticks_l c l hl m k (i + 1) (by omega)
    · rw [if_neg h, vireolaw11_ClintTicks.j1, if_neg (by decide)]
theorem rd_u64 (l : List Int) (h : ∀ x ∈ l, (Lit.int .u64 x).wf = true) (i : Nat) : 0 ≤ rd l (i : Int) ∧ rd l (i : Int) < 18446744073709551616 := by
  unfold rd
  rw [Int.toNat_natCast, List.getD_eq_getElem?_getD]
  by_cases hi : i < l.length
  · rw [List.getElem?_eq_getElem hi, Option.getD_some]
    obtain ⟨x, hx, hlt⟩ := u64_of_wf (h _ (List.getElem_mem hi))
    rw [hx]; omega
  · rw [List.getElem?_eq_none (by omega), Option.getD_none]; omega
theorem ClintTicks : vireolaw11_ClintTicks.Pure := by
  intro a0 l1 h0 _ _ h1
  obtain ⟨c, rfl, hc⟩ := u64_of_wf h0
  refine ⟨200, ?_⟩
  have hs := Store_is ⟨false, 18446744073709551615, 0⟩ ⟨by decide, by decide⟩ 16384 (by decide) 8 c hc
  have hm : may 16384 8 = true := by decide
  have hp : putW 18446744073709551615 ((0 : Nat) : Int) ((64 : Nat) : Int) c = c := by
    apply eq64 (putW_lt (by decide) _ _ _) hc
    intro i hi
    rw [tb_putW _ _ _ _ _ (by omega) (by omega), if_pos (by omega)]
    simp [hi]
  have hst : stW ⟨false, 18446744073709551615, 0⟩ 16384 8 c = ⟨false, c, 0⟩ := by
    unfold stW
    rw [if_pos (by decide)]
    exact congrArg (fun z => CS.mk false z 0) hp
  rw [hm, if_pos rfl, hst] at hs
  unfold vireolaw11_ClintTicks.f
  rw [awake_is, Option.bind_some, if_pos rfl, begin_is, Option.bind_some]
  dsimp only at hs ⊢
  rw [show ((16384 : Nat) : Int) = 16384 from rfl] at hs
  rw [hs, Option.bind_some]
  exact ticks_l c l1 (rd_u64 l1 h1) 60 78 0 rfl
end Go.Proofs.Ytpodgoceheoogaa.PureClintTicks
namespace Go.Proofs.Ytpodgoceheoogaa.Pure
theorem ClintTicks : PFi.vireolaw11_ClintTicks.Pure := PureClintTicks.ClintTicks
end Go.Proofs.Ytpodgoceheoogaa.Pure
