/- AmoSets: a reservation is held of its very piece till something is written that has a byte of it, for every address, number of bytes and list of writes; no condition. -/
import Derived.Test.YtkcbcehdpcjmhaaPAllx9
import Derived.Test.YtkcbcehdpcjmhaaS0
import Derived.Test.YtkcbcehdpcjmhaaOpAll
namespace Go.Proofs.Ytkcbcehdpcjmhaa.PureAmoSets
open Go.RowKit Go.Proofs.Ytkcbcehdpcjmhaa.PAll Go.Proofs.YtkcbcehdpcjmhaaW.PrintWords Go.Proofs.YtkcbcehdpcjmhaaW.PrintLast
open Go.Proofs.Ytkcbcehdpcjmhaa.Vw Go.Proofs.Ytkcbcehdpcjmhaa.Pure Go.Proofs.Ytkcbcehdpcjmhaa.OpAll
set_option linter.unusedVariables false
set_option linter.unusedSimpArgs false

theorem awake_is : vireolaw07_awake.f 420 = some true := by decide +kernel
def ovl (a n b m : Nat) : Bool := decide (0 < n ∧ 0 < m ∧ a < b + m ∧ b < a + n)
theorem over_word (a n b m : Nat) (ha : a < 18446744073709551616) (hn : n < 18446744073709551616) (hb : b < 18446744073709551616) (hm : m < 18446744073709551616) (k : Nat) : word_Overlap.f (k + 1) (a : Int) (n : Int) (b : Int) (m : Int) = some (ovl a n b m) := by
  unfold word_Overlap.f ovl
  by_cases c1 : n = 0
  · subst c1
    rw [if_pos (show ((0 : Nat) : Int) = 0 from rfl)]
    simp only [word_Overlap.j0, if_true]
    exact congrArg some (decide_eq_false (by omega)).symm
  · rw [if_neg (show ¬ (n : Int) = 0 by omega)]
    by_cases c2 : m = 0
    · subst c2
      rw [show (((0 : Nat) : Int) == 0) = true from rfl]
      simp only [word_Overlap.j0, if_true]
      exact congrArg some (decide_eq_false (by omega)).symm
    · rw [show ((m : Int) == 0) = false from beq_eq_false_iff_ne.mpr (by omega)]
      simp only [word_Overlap.j0]
      rw [if_neg (show ¬ (false = true) by decide)]
      by_cases c3 : (a : Int) ≤ b
      · rw [if_pos c3, u64_id _ (by omega) (by omega)]
        exact congrArg some (decide_eq_decide.mpr (by omega))
      · rw [if_neg c3, u64_id _ (by omega) (by omega)]
        exact congrArg some (decide_eq_decide.mpr (by omega))
theorem ref_less_is (a b c d : Nat) (ha : a < 18446744073709551616) (hb : b < 18446744073709551616) (hc : c < 18446744073709551616) (hd : d < 18446744073709551616) (alike : Bool) :
    vireoref01_less.f (a : Int) (b : Int) (c : Int) (d : Int) alike = some (decide (a + b < c + d ∨ (alike = true ∧ a + b = c + d))) := by
  unfold vireoref01_less.f vireoref01_sum.f
  simp only [Option.bind_some, IntKind.wrap_u64]
  have e1 : decide (((a : Int) + b) % 18446744073709551616 < a) = decide (18446744073709551616 ≤ a + b) := decide_eq_decide.mpr (by omega)
  have e2 : decide (((c : Int) + d) % 18446744073709551616 < c) = decide (18446744073709551616 ≤ c + d) := decide_eq_decide.mpr (by omega)
  rw [e1, e2]
  have no : ∀ x : Prop, ¬ (a + b < c + d) → ¬ (a + b = c + d) → ¬ (a + b < c + d ∨ (alike = true ∧ a + b = c + d)) := fun _ h1 h2 h => h.elim h1 (fun h => h2 h.2)
  have same : ∀ p q : Int, (p = q ↔ a + b = c + d) → ¬ (a + b < c + d) → (if alike = true then some (p == q) else some false) = some (decide (a + b < c + d ∨ (alike = true ∧ a + b = c + d))) := by
    intro p q h1 h2
    cases alike
    · rw [if_neg (by decide)]
      exact congrArg some (decide_eq_false (fun h => h.elim h2 (fun h => by cases h.1))).symm
    · rw [if_pos rfl]
      congr 1
      rw [Bool.eq_iff_iff, beq_iff_eq, decide_eq_true_iff, h1]
      exact ⟨fun h => .inr ⟨rfl, h⟩, fun h => h.elim (fun h => absurd h h2) (fun h => h.2)⟩
  by_cases h1 : 18446744073709551616 ≤ a + b
  · by_cases h2 : 18446744073709551616 ≤ c + d
    · rw [decide_eq_true h1, decide_eq_true h2, if_neg (by decide)]
      by_cases l : ((a : Int) + b) % 18446744073709551616 < ((c : Int) + d) % 18446744073709551616
      · rw [if_pos l, decide_eq_true (Or.inl (by omega))]
      · rw [if_neg l]
        exact same _ _ ⟨fun _ => by omega, fun _ => by omega⟩ (by omega)
    · rw [decide_eq_true h1, decide_eq_false h2, if_pos (show (true != false) = true from rfl), decide_eq_false (no True (by omega) (by omega))]
  · by_cases h2 : 18446744073709551616 ≤ c + d
    · rw [decide_eq_false h1, decide_eq_true h2, if_pos (show (false != true) = true from rfl), decide_eq_true (Or.inl (by omega))]
    · rw [decide_eq_false h1, decide_eq_false h2, if_neg (by decide)]
      by_cases l : ((a : Int) + b) % 18446744073709551616 < ((c : Int) + d) % 18446744073709551616
      · rw [if_pos l, decide_eq_true (Or.inl (by omega))]
      · rw [if_neg l]
        exact same _ _ ⟨fun _ => by omega, fun _ => by omega⟩ (by omega)
theorem over_ref (a n b m : Nat) (ha : a < 18446744073709551616) (hn : n < 18446744073709551616) (hb : b < 18446744073709551616) (hm : m < 18446744073709551616) : vireoref01_Overlap.f (a : Int) (n : Int) (b : Int) (m : Int) = some (ovl a n b m) := by
  unfold vireoref01_Overlap.f ovl
  have r1 := ref_less_is a 0 b m ha (by decide) hb hm false
  have r2 := ref_less_is b 0 a n hb (by decide) ha hn false
  by_cases c1 : 0 < n
  · rw [if_pos (show (n : Int) > 0 by omega)]
    by_cases c2 : 0 < m
    · rw [if_pos (show (m : Int) > 0 by omega), show (0 : Int) = ((0 : Nat) : Int) from rfl, r1, Option.bind_some, r2]
      by_cases c3 : a < b + m
      · rw [decide_eq_true (.inl (by omega)), if_pos rfl, Option.bind_some]
        exact congrArg some (decide_eq_decide.mpr (by simp; omega))
      · rw [decide_eq_false (by simp; omega), if_neg (by decide)]
        exact congrArg some (decide_eq_false (by omega)).symm
    · rw [if_neg (show ¬ (m : Int) > 0 by omega)]
      exact congrArg some (decide_eq_false (by omega)).symm
  · rw [if_neg (show ¬ (n : Int) > 0 by omega)]
    exact congrArg some (decide_eq_false (by omega)).symm
theorem holds_is (s l a : Nat) (n : Int) (hn : 0 ≤ n ∧ n ≤ 65) : amo_Set_Holds.f (s : Int) (l : Int) (a : Int) n = some (decide (0 < l ∧ s = a ∧ (l : Int) = n)) := by
  unfold amo_Set_Holds.f
  rw [u64_id n hn.1 (by omega)]
  by_cases c1 : 0 < l
  · rw [if_pos (show (l : Int) > 0 by omega)]
    by_cases c2 : s = a
    · rw [if_pos (by omega)]
      congr 1
      rw [Bool.eq_iff_iff, beq_iff_eq, decide_eq_true_iff]
      exact ⟨fun h => ⟨c1, c2, h⟩, fun h => h.2.2⟩
    · rw [if_neg (by omega)]
      exact congrArg some (decide_eq_false (fun h => c2 h.2.1)).symm
  · rw [if_neg (show ¬ (l : Int) > 0 by omega)]
    exact congrArg some (decide_eq_false (fun h => c1 h.1)).symm
theorem sets_l (a n : Nat) (ha : a < 18446744073709551616) (hn : n ≤ 64) (xs : List S38) (hx : ∀ y ∈ xs, good38 y) (hl : xs.length ≤ 40) (d : Nat) : ∀ (k i : Nat) (held : Bool), i + d = xs.length → 3 * d + 5 ≤ k → (held = true → 0 < n) →
    vireolaw07_AmoSets.l0 k (a : Int) (n : Int) xs held (i : Int) ((if held = true ∨ n = 0 then a else 0 : Nat) : Int) ((if held then n else 0 : Nat) : Int) = some true := by
  have hold : ∀ held : Bool, (held = true → 0 < n) → amo_Set_Holds.f ((if held = true ∨ n = 0 then a else 0 : Nat) : Int) ((if held then n else 0 : Nat) : Int) (a : Int) (n : Int) = some held := by
    intro held hh
    rw [holds_is _ _ _ _ (by omega)]
    cases held
    · exact congrArg some (decide_eq_false (by simp))
    · have := hh rfl
      exact congrArg some (decide_eq_true (by simp; omega))
  have hnot1 : ∀ held : Bool, amo_Set_Holds.f ((if held = true ∨ n = 0 then a else 0 : Nat) : Int) ((if held then n else 0 : Nat) : Int) (a : Int) (wrap64 ((n : Int) + 1)) = some false := by
    intro held
    rw [w64_id _ (by omega) (by omega), holds_is _ _ _ _ (by omega)]
    refine congrArg some (decide_eq_false ?_)
    cases held <;> simp <;> omega
  have hnot2 : ∀ held : Bool, amo_Set_Holds.f ((if held = true ∨ n = 0 then a else 0 : Nat) : Int) ((if held then n else 0 : Nat) : Int) (IntKind.u64.wrap ((a : Int) + 1)) (n : Int) = some false := by
    intro held
    have e : IntKind.u64.wrap ((a : Int) + 1) = (((a + 1) % 18446744073709551616 : Nat) : Int) := by rw [IntKind.wrap_u64]; omega
    rw [e, holds_is _ _ _ _ (by omega)]
    refine congrArg some (decide_eq_false ?_)
    cases held
    · simp
    · simp; omega
  induction d with
  | zero =>
    intro k i held hi hk hh
    obtain ⟨k, rfl⟩ : ∃ m, k = m + 1 := ⟨k - 1, by omega⟩
    simp only [vireolaw07_AmoSets.l0]
    rw [if_neg (show ¬ (i : Int) < (xs.length : Int) by omega), hold held hh, Option.bind_some, beq_self_eq_true, if_pos rfl]
    cases held
    · rw [if_neg (by decide)]
      by_cases c : n = 0
      · subst c
        rw [show (((0 : Nat) : Int) == 0) = true from rfl]
        exact ite_self _
      · rw [if_pos (by simp [c])]
    · rw [if_pos rfl]
  | succ d ih =>
    intro k i held hi hk hh
    obtain ⟨k, rfl⟩ : ∃ m, k = m + 1 + 1 + 1 := ⟨k - 3, by omega⟩
    simp only [vireolaw07_AmoSets.l0]
    rw [if_pos (show (i : Int) < (xs.length : Int) by omega), hold held hh, Option.bind_some, bne_self_eq_false, if_neg (show ¬ (false = true) by decide), hnot1 held, Option.bind_some, if_neg (show ¬ (false = true) by decide), hnot2 held, Option.bind_some]
    simp only [vireolaw07_AmoSets.j2]
    have hi2 : i < xs.length := by omega
    have q3 : wrap64 ((i : Int) + 1) = ((i + 1 : Nat) : Int) := w64_nat (i + 1) (by omega)
    have hrd : rd_T38 xs (i : Int) = xs[i] := by
      unfold rd_T38
      rw [Int.toNat_natCast, List.getD_eq_getElem?_getD, List.getElem?_eq_getElem hi2]; rfl
    obtain ⟨g0, g1⟩ := hx xs[i] (List.getElem_mem hi2)
    obtain ⟨b, eb, hb⟩ := u64_of_wf g0
    obtain ⟨m, em, hm⟩ := u64_of_wf g1
    rw [if_neg (show ¬ (false = true) by decide), if_pos (by omega), if_pos (show (i : Int) < (xs.length : Int) by omega), hrd, eb, em, q3, u64_nat n (by omega)]
    have hs1 : (if held = true ∨ n = 0 then a else 0) < 18446744073709551616 := by split <;> omega
    have hs2 : (if held then n else 0) < 18446744073709551616 := by split <;> omega
    unfold amo_Set_Broken.f
    rw [over_word _ _ b m hs1 hs2 hb hm, Option.bind_some, over_ref a n b m ha (by omega) hb hm]
    cases held
    · have hov : ovl (if false = true ∨ n = 0 then a else 0) (if false = true then n else 0) b m = false := by unfold ovl; exact decide_eq_false (by simp)
      have hn2 := ih (k + 1) (i + 1) false (by omega) (by omega) (fun h => by cases h)
      rw [hov, if_neg (show ¬ (false = true) by decide), Option.bind_some, if_neg (show ¬ (false = true) by decide)]
      exact hn2
    · have hn0 := hh rfl
      have hov : ovl (if true = true ∨ n = 0 then a else 0) (if true = true then n else 0) b m = ovl a n b m := by rw [if_pos (.inl rfl), if_pos rfl]
      rw [hov]
      cases hc : ovl a n b m
      · have hn2 := ih (k + 1) (i + 1) true (by omega) (by omega) (fun _ => hn0)
        rw [if_neg (show ¬ (false = true) by decide), Option.bind_some, if_pos rfl, Option.bind_some]
        exact hn2
      · have hn2 := ih (k + 1) (i + 1) false (by omega) (by omega) (fun h => by cases h)
        rw [if_pos rfl, Option.bind_some, if_pos rfl, Option.bind_some]
        have z1 : (if false = true ∨ n = 0 then a else 0) = 0 := by rw [if_neg (by simp; omega)]
        rw [z1] at hn2
        exact hn2
theorem sets_f (a : Nat) (ha : a < 18446744073709551616) (n : Int) (xs : List S38) (hx : ∀ y ∈ xs, good38 y) (k : Nat) (hk : 200 ≤ k) (hw : vireolaw07_awake.f k = some true) : vireolaw07_AmoSets.f k (a : Int) n xs = some true := by
  unfold vireolaw07_AmoSets.f
  rw [hw, Option.bind_some, if_pos rfl]
  clear hw
  obtain ⟨k, rfl⟩ : ∃ m, k = m + 1 := ⟨k - 1, by omega⟩
  by_cases c1 : n < 0
  · rw [if_pos c1]; simp only [vireolaw07_AmoSets.j0, if_true]
  rw [if_neg c1]
  by_cases c2 : n > 64
  · rw [if_pos c2]; simp only [vireolaw07_AmoSets.j0, if_true]
  rw [if_neg c2]
  by_cases c3 : (xs.length : Int) > 40
  · simp only [vireolaw07_AmoSets.j0, c3, decide_true, if_true]
  rw [decide_eq_false c3]
  simp only [vireolaw07_AmoSets.j0]
  rw [if_neg (show ¬ (false = true) by decide)]
  obtain ⟨m, rfl⟩ := Int.eq_ofNat_of_zero_le (a := n) (by omega)
  unfold amo_Reserve.f
  rw [Option.bind_some]
  have h := sets_l a m ha (by omega) xs hx (by omega) xs.length k 0 (decide ((m : Int) > 0)) (by omega) (by omega) (fun h => by have := of_decide_eq_true h; omega)
  have z1 : (if decide ((m : Int) > 0) = true ∨ m = 0 then a else 0) = a := if_pos (by by_cases e : m = 0; exact .inr e; exact .inl (decide_eq_true (by omega)))
  have z2 : (if decide ((m : Int) > 0) = true then m else 0) = m := by
    by_cases e : m = 0
    · subst e; rfl
    · rw [decide_eq_true (show (m : Int) > 0 by omega), if_pos rfl]
  rw [z1, z2, show ((0 : Nat) : Int) = 0 from rfl] at h
  rw [u64_nat m (by omega)]
  exact h
theorem AmoSets : vireolaw07_AmoSets.Pure2 := by
  intro b0 b1 b2 g0 g1 g2
  obtain ⟨a, rfl, ha⟩ := u64_of_wf g0
  exact ⟨420, sets_f a ha b1 b2 g2.2 420 (by omega) awake_is⟩
end Go.Proofs.Ytkcbcehdpcjmhaa.PureAmoSets
namespace Go.Proofs.Ytkcbcehdpcjmhaa.Pure
theorem AmoSets : OpAll.vireolaw07_AmoSets.Pure2 := PureAmoSets.AmoSets
end Go.Proofs.Ytkcbcehdpcjmhaa.Pure
