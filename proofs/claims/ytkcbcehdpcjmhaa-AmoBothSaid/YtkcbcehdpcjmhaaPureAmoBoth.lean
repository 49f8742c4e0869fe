/- AmoBoth: the lesser and the greater of two words are both of them, and swapped twice memory is as it was, for every two words; no condition. -/
import Derived.Test.YtkcbcehdpcjmhaaPAllx7
import Derived.Test.YtkcbcehdpcjmhaaS0
namespace Go.Proofs.Ytkcbcehdpcjmhaa.PureAmoBoth
open Go.RowKit Go.Proofs.Ytkcbcehdpcjmhaa.PAll Go.Proofs.YtkcbcehdpcjmhaaW.PrintWords Go.Proofs.YtkcbcehdpcjmhaaW.PrintLast
open Go.Proofs.Ytkcbcehdpcjmhaa.Vw Go.Proofs.Ytkcbcehdpcjmhaa.Pure
set_option linter.unusedVariables false
set_option linter.unusedSimpArgs false

theorem awake_is : vireolaw07_awake.f 420 = some true := by decide +kernel
theorem new_wide (op : Int) (hop : 84 ≤ op ∧ op ≤ 94) (a b : Nat) (ha : a < 18446744073709551616) (hb : b < 18446744073709551616) : amo_New.f 420 op (a : Int) (b : Int) = some (newR (newW (op - 84) true a b)) := by
  have h := amo_New_is op a b ha hb (by omega) 419
  simp only [hop, and_self, decide_true, if_true] at h
  exact h
theorem both_f (a b : Nat) (ha : a < 18446744073709551616) (hb : b < 18446744073709551616) : vireolaw07_AmoBoth.f 420 (a : Int) (b : Int) = some true := by
  have e1 := new_wide 91 (by omega) a b ha hb
  have e2 := new_wide 92 (by omega) a b ha hb
  have e3 := new_wide 93 (by omega) a b ha hb
  have e4 := new_wide 94 (by omega) a b ha hb
  have e5 := new_wide 86 (by omega) a b ha hb
  have e6 := new_wide 86 (by omega) b a hb ha
  have f1 : newR (newW (91 - 84) true a b) = (((if decide (sI a < sI b) then a else b : Nat) : Int), true) := rfl
  have f2 : newR (newW (92 - 84) true a b) = (((if decide (sI a > sI b) then a else b : Nat) : Int), true) := rfl
  have f3 : newR (newW (93 - 84) true a b) = (((if decide (a < b) then a else b : Nat) : Int), true) := rfl
  have f4 : newR (newW (94 - 84) true a b) = (((if decide (a > b) then a else b : Nat) : Int), true) := rfl
  have f5 : newR (newW (86 - 84) true a b) = ((b : Int), true) := rfl
  have f6 : newR (newW (86 - 84) true b a) = ((a : Int), true) := rfl
  rw [f1] at e1; rw [f2] at e2; rw [f3] at e3; rw [f4] at e4; rw [f5] at e5; rw [f6] at e6
  have hs : sI a = sI b → a = b := sI_inj ha hb
  obtain ⟨x, y, hx, hy, hxy⟩ : ∃ x y : Nat, (if decide (sI a < sI b) then a else b) = x ∧ (if decide (sI a > sI b) then a else b) = y ∧ ((x = a ∧ y = b) ∨ (x = b ∧ y = a)) := by
    refine ⟨_, _, rfl, rfl, ?_⟩
    by_cases l : sI a < sI b
    · rw [decide_eq_true l, decide_eq_false (show ¬ sI a > sI b by omega)]; exact .inl ⟨rfl, rfl⟩
    · by_cases g : sI a > sI b
      · rw [decide_eq_false l, decide_eq_true g]; exact .inr ⟨rfl, rfl⟩
      · rw [decide_eq_false l, decide_eq_false g]
        have := hs (by omega)
        subst this
        exact .inl ⟨rfl, rfl⟩
  obtain ⟨u, v, hu, hv, huv, hle⟩ : ∃ u v : Nat, (if decide (a < b) then a else b) = u ∧ (if decide (a > b) then a else b) = v ∧ ((u = a ∧ v = b) ∨ (u = b ∧ v = a)) ∧ u ≤ v := by
    refine ⟨_, _, rfl, rfl, ?_⟩
    by_cases l : a < b
    · rw [decide_eq_true l, decide_eq_false (show ¬ a > b by omega)]; exact ⟨.inl ⟨rfl, rfl⟩, by show a ≤ b; omega⟩
    · by_cases g : a > b
      · rw [decide_eq_false l, decide_eq_true g]; exact ⟨.inr ⟨rfl, rfl⟩, by show b ≤ a; omega⟩
      · have : a = b := by omega
        rw [decide_eq_false l, decide_eq_false g]
        subst this
        exact ⟨.inl ⟨rfl, rfl⟩, Nat.le_refl _⟩
  rw [hx] at e1; rw [hy] at e2; rw [hu] at e3; rw [hv] at e4
  have c5 : ((u : Int) ≤ (v : Int)) := by omega
  unfold vireolaw07_AmoBoth.f
  rw [awake_is, Option.bind_some, if_pos rfl, e1, Option.bind_some, e2, Option.bind_some, e3, Option.bind_some, e4, Option.bind_some, e5, Option.bind_some, e6, Option.bind_some]
  clear e1 e2 e3 e4 e5 e6 f1 f2 f3 f4 f5 f6 hx hy hu hv hs
  by_cases cab : a = b
  · subst cab
    have e1 : x = a := by omega
    have e2 : y = a := by omega
    have e3 : u = a := by omega
    have e4 : v = a := by omega
    subst e1 e2 e3 e4
    simp
  · have cab2 : ¬ (a : Int) = (b : Int) := by omega
    have cab3 : ¬ (b : Int) = (a : Int) := by omega
    rcases hxy with ⟨h1, h2⟩ | ⟨h1, h2⟩ <;> rcases huv with ⟨h3, h4⟩ | ⟨h3, h4⟩ <;> subst h1 h2 h3 h4 <;> simp [cab2, cab3, c5]
theorem AmoBoth : vireolaw07_AmoBoth.Pure := by
  intro a0 a1 h0 h1
  obtain ⟨a, rfl, ha⟩ := u64_of_wf h0
  obtain ⟨b, rfl, hb⟩ := u64_of_wf h1
  exact ⟨420, both_f a b ha hb⟩
end Go.Proofs.Ytkcbcehdpcjmhaa.PureAmoBoth
namespace Go.Proofs.Ytkcbcehdpcjmhaa.Pure
theorem AmoBoth : PAll.vireolaw07_AmoBoth.Pure := PureAmoBoth.AmoBoth
end Go.Proofs.Ytkcbcehdpcjmhaa.Pure
