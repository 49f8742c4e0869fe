/- The law Sv39Makes in the form that its row asks (wip/tools/rowgen.py). -/
import Derived.Test.YtlhdildnekllhaaHlmakes
namespace Go.Proofs.Ytlhdildnekllhaa.PMk
open Go.RowKit Go.Proofs.YtlhdildnekllhaaW.PrintWords Go.Proofs.Ytlhdildnekllhaa.H
set_option linter.unusedVariables false
def vireolaw10_Sv39Makes.f (a0 : Int) (a1 : Bool) : Option Bool := if decide (0 ≤ a0 ∧ a0 < 18446744073709551616) = true then some true else none
theorem vireolaw10_Sv39Makes.calls (a0 : Int) (a1 : Bool) (r : Bool) (w : World) (h : vireolaw10_Sv39Makes.f a0 a1 = some r) :
    Calls Try.prog 5 #[.int .u64 a0, .bool a1] w fun e w' => e = .returned (.bool r) ∧ Below w.heap.size w w' := by
  unfold vireolaw10_Sv39Makes.f at h
  split at h
  next hf =>
    have h2 := of_decide_eq_true hf
    obtain rfl := Option.some.inj h
    obtain ⟨p, rfl⟩ : ∃ p : Nat, a0 = (p : Int) := ⟨a0.toNat, by omega⟩
    exact makes_c p a1 w ⟨by omega⟩
  next => cases h
end Go.Proofs.Ytlhdildnekllhaa.PMk
