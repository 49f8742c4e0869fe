/- The law Sv39Keeps in the form that its row asks (wip/tools/rowgen.py). -/
import Derived.Test.YtlhdildnekllhaaHlkeeps
/-
structure S72 where  (it stands in Hmemory)
-/
namespace Go.Proofs.Ytlhdildnekllhaa.PKe
open Go.RowKit Go.Proofs.YtlhdildnekllhaaW.PrintWords Go.Proofs.Ytlhdildnekllhaa.H Go.Proofs.Ytlhdildnekllhaa.PAl
set_option linter.unusedVariables false
def isU (x : Int) : Bool := decide (0 ≤ x ∧ x < 18446744073709551616)
def finePut (l : List S72) : Bool := l.all fun y => isU y.f0 && isU y.f1
theorem isU_of {x : Int} (h : isU x = true) : ∃ k : Nat, x = k ∧ U k := by
  have := of_decide_eq_true h
  exact ⟨x.toNat, by omega, ⟨by omega⟩⟩
theorem finePut_of {l : List S72} (h : finePut l = true) : putOk l := fun y hy => by
  have := List.all_eq_true.1 h y hy
  rw [Bool.and_eq_true] at this
  exact ⟨of_decide_eq_true this.1, of_decide_eq_true this.2⟩
def vireolaw10_Sv39Keeps.f (l0 : List S72) (a1_0 a1_1 a1_2 : Int) (a1_3 a1_4 : Bool) (a2 : Int) : Option Bool := if (finePut l0 && isU a1_0 && isU a2) = true then some true else none
theorem vireolaw10_Sv39Keeps.calls (A0 : Option Addr) (c0 : Nat) (l0 : List S72) (a1_0 : Int) (a1_1 : Int) (a1_2 : Int) (a1_3 : Bool) (a1_4 : Bool) (a2 : Int) (r : Bool) (w : World) (hr0 : Kd.C k72 w A0 l0.length l0) (hc0 : l0.length ≤ c0) (h : vireolaw10_Sv39Keeps.f l0 a1_0 a1_1 a1_2 a1_3 a1_4 a2 = some r) :
    Calls Try.prog 6 #[.slice A0 l0.length c0, .agg #[.int .u64 a1_0, .int .i64 a1_1, .int .i64 a1_2, .bool a1_3, .bool a1_4], .int .u64 a2] w fun e w' => e = .returned (.bool r) ∧ Below w.heap.size w w' := by
  unfold vireolaw10_Sv39Keeps.f at h
  split at h
  next hf =>
    obtain rfl := Option.some.inj h
    simp only [Bool.and_eq_true] at hf
    have hx := finePut_of hf.1.1
    obtain ⟨sp, rfl, hp⟩ := isU_of hf.1.2
    obtain ⟨va, rfl, hv⟩ := isU_of hf.2
    by_cases hn : 60 < l0.length
    · exact keeps_big A0 c0 l0 sp a1_1 a1_2 a1_3 a1_4 va w hn
    · by_cases hm : rightW a1_2 = true
      · exact keeps_yes A0 c0 l0 sp a1_1 a1_2 a1_3 a1_4 va w (by omega) hr0 hx hp hv hm
      · exact keeps_md A0 c0 l0 sp a1_1 a1_2 a1_3 a1_4 va w (by omega) hr0 hx (by simpa using hm)
  next => cases h
end Go.Proofs.Ytlhdildnekllhaa.PKe
