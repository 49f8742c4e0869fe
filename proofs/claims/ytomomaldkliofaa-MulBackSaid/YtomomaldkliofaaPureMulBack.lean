/- MulBack: quotient times divisor and the rest are the number, with signs and without, for every two words, and with 0 as the page says; no condition. -/
import Derived.Test.YtomomaldkliofaaPAllx5
import Derived.Test.YtomomaldkliofaaS0
namespace Go.Proofs.Ytomomaldkliofaa.PureMulBack
open Go.RowKit Go.Proofs.Ytomomaldkliofaa.PAll Go.Proofs.YtomomaldkliofaaW.PrintWords Go.Proofs.YtomomaldkliofaaW.PrintLast
open Go.Proofs.Ytomomaldkliofaa.Vw Go.Proofs.Ytomomaldkliofaa.Pure
set_option linter.unusedVariables false
set_option linter.unusedSimpArgs false

theorem awake_is : vireolaw06_awake.f 405 = some true := by decide +kernel
theorem back_signed (a b q r : Nat) (ha : a < 18446744073709551616) (hb : b < 18446744073709551616) (hb0 : b ≠ 0) (p : Int × Int) (hp : mul_div.f (sI a) (sI b) = some p) (hq : IntKind.u64.wrap p.1 = (q : Int)) (hr : IntKind.u64.wrap p.2 = (r : Int)) :
    ((q : Int) * b + r) % 18446744073709551616 = a := by
  have hs : sI b ≠ 0 := by unfold sI; split <;> omega
  have key : ∃ k : Int, p.1 * sI b + p.2 = sI a + k * 18446744073709551616 := by
    unfold mul_div.f at hp
    rw [if_neg hs] at hp
    have norm : p = (wrap64 (Int.tdiv (sI a) (sI b)), Int.tmod (sI a) (sI b)) → ¬ (sI a = -9223372036854775808 ∧ sI b = -1) → ∃ k : Int, p.1 * sI b + p.2 = sI a + k * 18446744073709551616 := by
      rintro rfl _
      refine ⟨(wrap64 (Int.tdiv (sI a) (sI b)) - Int.tdiv (sI a) (sI b)) / 18446744073709551616 * sI b, ?_⟩
      have e := Int.tdiv_mul_add_tmod (sI a) (sI b)
      have w : wrap64 (Int.tdiv (sI a) (sI b)) = Int.tdiv (sI a) (sI b) + (wrap64 (Int.tdiv (sI a) (sI b)) - Int.tdiv (sI a) (sI b)) / 18446744073709551616 * 18446744073709551616 := by
        unfold wrap64; omega
      generalize (wrap64 (Int.tdiv (sI a) (sI b)) - Int.tdiv (sI a) (sI b)) / 18446744073709551616 = z at *
      show wrap64 (Int.tdiv (sI a) (sI b)) * sI b + Int.tmod (sI a) (sI b) = _
      rw [w]
      generalize Int.tdiv (sI a) (sI b) = x at *
      generalize Int.tmod (sI a) (sI b) = y at *
      rw [← e]
      grind
    by_cases c1 : sI a = -9223372036854775808
    · rw [if_pos c1] at hp
      by_cases c2 : sI b = -1
      · rw [if_pos c2] at hp
        obtain rfl := Option.some.inj hp
        exact ⟨1, by show sI a * sI b + 0 = _; rw [c1, c2]; decide⟩
      · rw [if_neg c2] at hp
        exact norm (Option.some.inj hp).symm (fun h => c2 h.2)
    · rw [if_neg c1] at hp
      exact norm (Option.some.inj hp).symm (fun h => c1 h.1)
  obtain ⟨k, hk⟩ := key
  have hq2 : ∃ z, (q : Int) = p.1 + z * 18446744073709551616 := ⟨-(p.1 / 18446744073709551616), by rw [← hq, IntKind.wrap_u64]; omega⟩
  have hr2 : ∃ z, (r : Int) = p.2 + z * 18446744073709551616 := ⟨-(p.2 / 18446744073709551616), by rw [← hr, IntKind.wrap_u64]; omega⟩
  have hb2 : ∃ z, (b : Int) = sI b + z * 18446744073709551616 := by unfold sI; split; exact ⟨1, by omega⟩; exact ⟨0, by omega⟩
  have ha2 : ∃ z, sI a = (a : Int) + z * 18446744073709551616 := by unfold sI; split; exact ⟨-1, by omega⟩; exact ⟨0, by omega⟩
  obtain ⟨z1, e1⟩ := hq2
  obtain ⟨z2, e2⟩ := hr2
  obtain ⟨z3, e3⟩ := hb2
  obtain ⟨z4, e4⟩ := ha2
  have e : (q : Int) * b + r = a + (k + z4 + z2 + z1 * sI b + p.1 * z3 + z1 * z3 * 18446744073709551616) * 18446744073709551616 := by
    rw [e1, e2, e3]
    grind
  rw [e, Int.add_mul_emod_self_right]
  omega
theorem MulBack : vireolaw06_MulBack.Pure := by
  intro a0 a1 h0 h1
  obtain ⟨a, rfl, ha⟩ := u64_of_wf h0
  obtain ⟨b, rfl, hb⟩ := u64_of_wf h1
  refine ⟨405, ?_⟩
  unfold vireolaw06_MulBack.f
  obtain ⟨q, hq, e1, _, p1, hp1, hq1⟩ := Do_64 a b ha hb 400 (by omega)
  obtain ⟨r, hr, e2, _, p2, hp2, hr2⟩ := Do_66 a b ha hb 400 (by omega)
  have e3 := (Do_65 a b ha hb 400 (by omega)).1
  have e4 := (Do_67 a b ha hb 400 (by omega)).1
  obtain rfl : p1 = p2 := Option.some.inj (hp1.symm.trans hp2)
  rw [awake_is, Option.bind_some, if_pos rfl, e1, Option.bind_some, e2, Option.bind_some, e3, Option.bind_some, e4, Option.bind_some]
  by_cases c : b = 0
  · subst c
    have hd : mul_div.f (sI a) (sI 0) = some (-1, sI a) := by unfold mul_div.f; rw [if_pos (show sI 0 = 0 from rfl)]
    obtain rfl := Option.some.inj (hp1.symm.trans hd)
    have f1 : (q : Int) = 18446744073709551615 := by rw [← hq1]; show IntKind.u64.wrap (-1) = _; decide +kernel
    have f2 : (r : Int) = a := by
      rw [← hr2, IntKind.wrap_u64]
      show sI a % 18446744073709551616 = a
      unfold sI; split <;> omega
    rw [if_pos (show ((0 : Nat) : Int) = 0 from rfl), if_pos rfl, f1, f2, if_pos rfl, if_pos (show ((18446744073709551615 : Nat) : Int) = 18446744073709551615 from rfl), if_pos rfl, Nat.mod_zero, beq_self_eq_true]
  · have c2 : ¬ ((b : Int) = 0) := by omega
    have s := back_signed a b q r ha hb c p1 hp1 hq1 hr2
    have hm := Nat.div_add_mod a b
    have hlt := Nat.mod_lt a (Nat.pos_of_ne_zero c)
    have hw : ∀ x y z : Nat, IntKind.u64.wrap (IntKind.u64.wrap ((x : Int) * y) + z) = ((x : Int) * y + z) % 18446744073709551616 := by
      intro x y z
      rw [IntKind.wrap_u64, IntKind.wrap_u64, Int.emod_add_emod]
    rw [if_neg c2, if_neg c, hw, s, if_pos rfl, hw]
    have u : (((a / b : Nat) : Int) * b + ((a % b : Nat) : Int)) % 18446744073709551616 = a := by
      have : ((a / b : Nat) : Int) * b + ((a % b : Nat) : Int) = a := by
        rw [← Int.natCast_mul, ← Int.natCast_add, Nat.mul_comm, hm]
      rw [this]; omega
    rw [u, if_pos rfl]
    congr 1
    exact decide_eq_true (by omega)
end Go.Proofs.Ytomomaldkliofaa.PureMulBack
namespace Go.Proofs.Ytomomaldkliofaa.Pure
theorem MulBack : PAll.vireolaw06_MulBack.Pure := PureMulBack.MulBack
end Go.Proofs.Ytomomaldkliofaa.Pure
