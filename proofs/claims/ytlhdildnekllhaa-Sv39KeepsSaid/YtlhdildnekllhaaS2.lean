import Derived.Test.YtlhdildnekllhaaLx
import Derived.OpenShut
import Derived.Laws.BitsAllLaws
import Derived.Test.YtlhdildnekllhaaVw
import Derived.Test.YtlhdildnekllhaaS0
namespace Go.Proofs.Ytlhdildnekllhaa.Pure
open Go.RowKit Go.Proofs.Ytlhdildnekllhaa.PAl Go.Proofs.YtlhdildnekllhaaW.PrintWords Go.Proofs.YtlhdildnekllhaaW.PrintLast
open Go.Proofs.Ytlhdildnekllhaa.Vw
set_option linter.unusedVariables false
set_option linter.unusedSimpArgs false

theorem ref_less_is (a b c d : Nat) (ha : a < 18446744073709551616) (hb : b < 18446744073709551616) (hc : c < 18446744073709551616) (hd : d < 18446744073709551616) (alike : Bool) :
    vireoref01_less.f (a : Int) (b : Int) (c : Int) (d : Int) alike = some (decide (a + b < c + d ∨ (alike = true ∧ a + b = c + d))) := by
  unfold vireoref01_less.f vireoref01_sum.f
  simp only [Option.bind_some, IntKind.wrap_u64]
  have e1 : decide (((a : Int) + b) % 18446744073709551616 < a) = decide (18446744073709551616 ≤ a + b) := decide_eq_decide.mpr (by omega)
  have e2 : decide (((c : Int) + d) % 18446744073709551616 < c) = decide (18446744073709551616 ≤ c + d) := decide_eq_decide.mpr (by omega)
  rw [e1, e2]
  have no : ∀ x : Prop, ¬ (a + b < c + d) → ¬ (a + b = c + d) → ¬ (a + b < c + d ∨ (alike = true ∧ a + b = c + d)) := fun _ h1 h2 h => h.elim h1 (fun h => h2 h.2)
  have same : ∀ p q : Int, (p = q ↔ a + b = c + d) → ¬ (a + b < c + d) → (if alike = true then some (p == q) else some false) = some (decide (a + b < c + d ∨ (alike = true ∧ a + b = c + d))) := by
    intro p q h1 h2
    cases alike
    · rw [if_neg (by decide)]
      exact congrArg some (decide_eq_false (fun h => h.elim h2 (fun h => by cases h.1))).symm
    · rw [if_pos rfl]
      congr 1
      rw [Bool.eq_iff_iff, beq_iff_eq, decide_eq_true_iff, h1]
      exact ⟨fun h => .inr ⟨rfl, h⟩, fun h => h.elim (fun h => absurd h h2) (fun h => h.2)⟩
  by_cases h1 : 18446744073709551616 ≤ a + b
  · by_cases h2 : 18446744073709551616 ≤ c + d
    · rw [decide_eq_true h1, decide_eq_true h2, if_neg (by decide)]
      by_cases l : ((a : Int) + b) % 18446744073709551616 < ((c : Int) + d) % 18446744073709551616
      · rw [if_pos l, decide_eq_true (Or.inl (by omega))]
      · rw [if_neg l]
        exact same _ _ ⟨fun _ => by omega, fun _ => by omega⟩ (by omega)
    · rw [decide_eq_true h1, decide_eq_false h2, if_pos (show (true != false) = true from rfl), decide_eq_false (no True (by omega) (by omega))]
  · by_cases h2 : 18446744073709551616 ≤ c + d
    · rw [decide_eq_false h1, decide_eq_true h2, if_pos (show (false != true) = true from rfl), decide_eq_true (Or.inl (by omega))]
    · rw [decide_eq_false h1, decide_eq_false h2, if_neg (by decide)]
      by_cases l : ((a : Int) + b) % 18446744073709551616 < ((c : Int) + d) % 18446744073709551616
      · rw [if_pos l, decide_eq_true (Or.inl (by omega))]
      · rw [if_neg l]
        exact same _ _ ⟨fun _ => by omega, fun _ => by omega⟩ (by omega)
theorem within_ref (a n b m : Nat) (ha : a < 18446744073709551616) (hn : n < 18446744073709551616) (hb : b < 18446744073709551616) (hm : m < 18446744073709551616) : vireoref01_Within.f (a : Int) (n : Int) (b : Int) (m : Int) = some (decide (b ≤ a ∧ a + n ≤ b + m)) := by
  unfold vireoref01_Within.f
  by_cases c1 : (b : Int) ≤ a
  · rw [if_pos c1, ref_less_is a n b m ha hn hb hm true, Option.bind_some]
    exact congrArg some (decide_eq_decide.mpr ⟨fun h => h.elim (fun h => by omega) (fun h => by omega), fun h => by by_cases e : a + n = b + m; exact .inr ⟨rfl, e⟩; exact .inl (by omega)⟩)
  · rw [if_neg c1]; exact congrArg some (decide_eq_false (by omega)).symm
/-- the n low bytes of w, the lowest first -/
def bys (w n : Nat) : List Int := (List.range n).map fun i => ((w / 256 ^ i % 256 : Nat) : Int)
theorem bys_length (w n : Nat) : (bys w n).length = n := by simp [bys]
theorem bys_succ (w n : Nat) : bys w (n + 1) = bys w n ++ [((w / 256 ^ n % 256 : Nat) : Int)] := by simp [bys, List.range_succ]
theorem bys_rd (w n i : Nat) (h : i < n) : rd (bys w n) (i : Int) = ((w / 256 ^ i % 256 : Nat) : Int) := by
  unfold rd bys
  rw [Int.toNat_natCast]
  simp [List.getD_eq_getElem?_getD, h]
theorem div256 (w i : Nat) : w / 256 ^ i / 256 = w / 256 ^ (i + 1) := by rw [Nat.div_div_eq_div_mul, Nat.pow_succ]
/-- how many -/
def bcn (n : Int) : Nat := (mn (mx n 0) 4096).toNat
theorem bcn_le (n : Int) : bcn n ≤ 4096 := by unfold bcn mn mx; split <;> split <;> omega
theorem bcn_is (n : Int) : mn (mx n 0) 4096 = ((bcn n : Nat) : Int) := by unfold bcn mn mx; split <;> split <;> omega
theorem bcn_lt (n : Int) (i : Nat) (h : i < bcn n) : (i : Int) < n := by
  revert h
  unfold bcn mn mx
  split <;> split <;> omega
theorem wdiv256 (a : Nat) (h : a < 18446744073709551616) : IntKind.u64.wrap (Int.tdiv (a : Int) 256) = ((a / 256 : Nat) : Int) := by
  have e : Int.tdiv (a : Int) 256 = ((a / 256 : Nat) : Int) := tdiv_nat a 256
  rw [e]
  exact u64_nat _ (by omega)
theorem wmod256 (a : Nat) : (Int.tmod (a : Int) 256) % 256 = ((a % 256 : Nat) : Int) := by
  have e : Int.tmod (a : Int) 256 = ((a % 256 : Nat) : Int) := tmod_nat a 256
  rw [e]; omega
theorem vireoref01_Bytes_l0 (w : Nat) (hw : w < 18446744073709551616) (n : Int) : ∀ (m k i : Nat), i + m = bcn n → vireoref01_Bytes.l0 (m + k + 1) ((w / 256 ^ i : Nat) : Int) n (bys w i) (i : Int) = some (bys w (bcn n))
  | 0, k, i, h => by
    have hc := bcn_le n
    have e : i = bcn n := by omega
    rw [e, vireoref01_Bytes.l0]
    by_cases c : ((bcn n : Nat) : Int) < n
    · have : bcn n = 4096 := by revert c; unfold bcn mn mx; split <;> split <;> omega
      rw [if_pos c, if_neg (by omega)]
    · rw [if_neg c]
  | m + 1, k, i, h => by
    have hc := bcn_le n
    have e : m + 1 + k + 1 = (m + k + 1) + 1 := by omega
    have hi : (i : Int) < n := bcn_lt n i (by omega)
    have h4 : (i : Int) < 4096 := by omega
    have h5 : (bys w i).length < 140737488355328 := by rw [bys_length]; omega
    have h6 : i + 1 + m = bcn n := by omega
    have e3 : wrap64 ((i : Int) + 1) = ((i + 1 : Nat) : Int) := by rw [w64_id _ (by omega) (by omega)]; omega
    have hd : w / 256 ^ i ≤ w := Nat.div_le_self _ _
    have hlt : w / 256 ^ i < 18446744073709551616 := Nat.lt_of_le_of_lt hd hw
    have e1 : IntKind.u64.wrap (Int.tdiv ((w / 256 ^ i : Nat) : Int) 256) = ((w / 256 ^ (i + 1) : Nat) : Int) := (wdiv256 (w / 256 ^ i) hlt).trans (congrArg (fun z : Nat => (z : Int)) (div256 w i))
    have e2 : (Int.tmod ((w / 256 ^ i : Nat) : Int) 256) % 256 = ((w / 256 ^ i % 256 : Nat) : Int) := wmod256 (w / 256 ^ i)
    rw [e, vireoref01_Bytes.l0, if_pos hi, if_pos h4, if_pos h5, e1, e2, e3, ← bys_succ w i]
    exact vireoref01_Bytes_l0 w hw n m k (i + 1) h6
theorem vireoref01_Bytes_is (k : Nat) (hk : 5000 ≤ k) (w : Nat) (hw : w < 18446744073709551616) (n : Int) : vireoref01_Bytes.f k (w : Int) n = some (bys w (bcn n)) := by
  have hc := bcn_le n
  obtain ⟨k, rfl⟩ : ∃ j, k = bcn n + j + 1 := ⟨k - bcn n - 1, by omega⟩
  unfold vireoref01_Bytes.f
  have h := vireoref01_Bytes_l0 w hw n (bcn n) k 0 (by omega)
  rw [Nat.pow_zero, Nat.div_one] at h
  exact h
end Go.Proofs.Ytlhdildnekllhaa.Pure
