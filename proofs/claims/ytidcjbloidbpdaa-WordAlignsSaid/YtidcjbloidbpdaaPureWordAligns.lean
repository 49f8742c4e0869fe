/- WordAligns: whether a word is divided by a power of two is told, for every word and every exponent; no condition. -/
import Derived.Test.YtidcjbloidbpdaaPAllx2
import Derived.Test.YtidcjbloidbpdaaS0
namespace Go.Proofs.Ytidcjbloidbpdaa.PureWordAligns
open Go.RowKit Go.Proofs.Ytidcjbloidbpdaa.PAll Go.Proofs.YtidcjbloidbpdaaW.PrintWords Go.Proofs.YtidcjbloidbpdaaW.PrintLast
open Go.Proofs.Ytidcjbloidbpdaa.Vw Go.Proofs.Ytidcjbloidbpdaa.Pure
set_option linter.unusedVariables false
set_option linter.unusedSimpArgs false

theorem awake_is : vireolaw01_awake.f 300 = some true := by decide +kernel
theorem WordAligns : vireolaw01_WordAligns.Pure := by
  intro a0 a1 h0 h1
  obtain ⟨x, rfl, hx⟩ := u64_of_wf h0
  refine ⟨300, ?_⟩
  unfold vireolaw01_WordAligns.f
  rw [awake_is]
  simp only [Option.bind_some, if_true]
  have hA : word_Aligned.f (x : Int) 0 = some true := rfl
  by_cases c0 : a1 < 0
  · rw [if_pos c0]
    simp only [vireolaw01_WordAligns.j0, if_true]
    rw [hA]; rfl
  · rw [if_neg c0]
    by_cases c1 : a1 > 63
    · simp only [vireolaw01_WordAligns.j0, c1, decide_true, if_true]
      rw [hA]; rfl
    · simp only [vireolaw01_WordAligns.j0, c1, decide_false, Bool.false_eq_true, if_false]
      obtain ⟨n, rfl⟩ := Int.eq_ofNat_of_zero_le (a := a1) (by omega)
      have hp : 2 ^ n < 2 ^ 64 := Nat.pow_lt_pow_right (by decide) (by omega)
      have hp0 : 0 < 2 ^ n := Nat.two_pow_pos _
      rw [two64] at hp
      have hs : shl .u64 1 (n : Int) = ((2 ^ n : Nat) : Int) := by
        have e := shl_nat 1 n (by omega)
        rw [Nat.one_mul, Nat.mod_eq_of_lt hp] at e
        exact e
      have hmask := Nat.and_two_pow_sub_one_eq_mod x n
      rw [if_pos (by omega), hs]
      generalize 2 ^ n = p at *
      have hf : word_Aligned.f (x : Int) (p : Int) = some (x % p == 0) := by
        unfold word_Aligned.f
        rw [if_neg (by omega)]
        have e1 : IntKind.u64.wrap ((p : Int) - 1) = ((p - 1 : Nat) : Int) := by
          rw [u64_id _ (by omega) (by omega)]; omega
        rw [e1, and_nat _ _ hx (by omega), hmask]
        congr 1
        rw [Bool.eq_iff_iff]; simp; omega
      rw [hf]
      simp only [Option.bind_some]
      rw [if_neg (by omega), tmod_nat]
      congr 1
      generalize x % p = q
      by_cases h : q = 0
      · subst h; rfl
      · have h2 : ¬ ((q : Int) = 0) := by omega
        rw [beq_eq_false_iff_ne.mpr h, beq_eq_false_iff_ne.mpr h2]; rfl
end Go.Proofs.Ytidcjbloidbpdaa.PureWordAligns
namespace Go.Proofs.Ytidcjbloidbpdaa.Pure
theorem WordAligns : PAll.vireolaw01_WordAligns.Pure := PureWordAligns.WordAligns
end Go.Proofs.Ytidcjbloidbpdaa.Pure
