/- The law Sv39Ways in the form that its row asks (wip/tools/rowgen.py). -/
import Derived.Test.YtlhdildnekllhaaTe
/-
structure S92 where  (it stands in PAlx0)
-/
namespace Go.Proofs.Ytlhdildnekllhaa.PWy
open Go.RowKit Go.Proofs.YtlhdildnekllhaaW.PrintWords Go.Proofs.Ytlhdildnekllhaa.H Go.Proofs.Ytlhdildnekllhaa.PAl
set_option linter.unusedVariables false
def fineS (l : List S92) (v : Int) : Bool := l.all (fun y => decide (0 ≤ y.f1 ∧ y.f1 < 18446744073709551616)) && decide (0 ≤ v ∧ v < 18446744073709551616)
theorem fineS_of {l : List S92} {v : Int} (h : fineS l v = true) : wrOk l ∧ ∃ k : Nat, v = k ∧ U k := by
  unfold fineS at h
  rw [Bool.and_eq_true, List.all_eq_true] at h
  have h2 := of_decide_eq_true h.2
  exact ⟨fun y hy => of_decide_eq_true (h.1 y hy), v.toNat, by omega, ⟨by omega⟩⟩
theorem word_of {v : Int} (h : decide (0 ≤ v ∧ v < 18446744073709551616) = true) : ∃ k : Nat, v = k ∧ U k := by
  have h2 := of_decide_eq_true h
  exact ⟨v.toNat, by omega, ⟨by omega⟩⟩
def vireolaw10_Sv39Ways.f (a0_0 : Int) (l0_1 : List S92) (a0_2 : Int) (a1 : Int) (a2 : Int) : Option Bool := if (fineS l0_1 a0_2 && decide (0 ≤ a2 ∧ a2 < 18446744073709551616)) = true then some true else none
theorem vireolaw10_Sv39Ways.calls (a0_0 : Int) (A0_1 : Option Addr) (c0_1 : Nat) (l0_1 : List S92) (a0_2 : Int) (a1 : Int) (a2 : Int) (r : Bool) (w : World) (hr0_1 : Kd.C k92 w A0_1 l0_1.length l0_1) (hc0_1 : l0_1.length ≤ c0_1) (h : vireolaw10_Sv39Ways.f a0_0 l0_1 a0_2 a1 a2 = some r) :
    Calls Try.prog 7 #[.agg #[.int .i64 a0_0, .slice A0_1 l0_1.length c0_1, .int .u64 a0_2], .int .i64 a1, .int .u64 a2] w fun e w' => e = .returned (.bool r) ∧ Below w.heap.size w w' := by
  unfold vireolaw10_Sv39Ways.f at h
  split at h
  next hf =>
    simp only [Bool.and_eq_true] at hf
    obtain ⟨hx, k, rfl, hU⟩ := fineS_of hf.1
    obtain ⟨k2, rfl, hU2⟩ := word_of (hf.2)
    obtain rfl := Option.some.inj h
    by_cases hb : bgOk a0_0 l0_1.length
    · exact ways_yes a0_0 A0_1 c0_1 k l0_1 a1 k2 w hr0_1 hx hU hb hU2
    · exact ways_no a0_0 A0_1 c0_1 k l0_1 a1 k2 w hr0_1 hb
  next => cases h
end Go.Proofs.Ytlhdildnekllhaa.PWy
