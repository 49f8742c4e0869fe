/- The law TrapAsks in the form that its row asks (wip/tools/rowgen.py). -/
import Derived.Test.YtnknfepbekaobaaTe
namespace Go.Proofs.Ytnknfepbekaobaa.PAs
open Go.RowKit Go.Proofs.YtnknfepbekaobaaW.PrintWords Go.Proofs.Ytnknfepbekaobaa.H Go.Proofs.Ytnknfepbekaobaa.PAl
set_option linter.unusedVariables false
def fineS (l : List S68) (v : Int) : Bool := l.all (fun y => decide (0 ≤ y.f1 ∧ y.f1 < 18446744073709551616)) && decide (0 ≤ v ∧ v < 18446744073709551616)
theorem fineS_of {l : List S68} {v : Int} (h : fineS l v = true) : wrOk l ∧ ∃ k : Nat, v = k ∧ U k := by
  unfold fineS at h
  rw [Bool.and_eq_true, List.all_eq_true] at h
  have h2 := of_decide_eq_true h.2
  exact ⟨fun y hy => of_decide_eq_true (h.1 y hy), v.toNat, by omega, ⟨by omega⟩⟩
theorem word_of {v : Int} (h : decide (0 ≤ v ∧ v < 18446744073709551616) = true) : ∃ k : Nat, v = k ∧ U k := by
  have h2 := of_decide_eq_true h
  exact ⟨v.toNat, by omega, ⟨by omega⟩⟩
def vireolaw09_TrapAsks.f (a0_0 : Int) (l0_1 : List S68) (a0_2 : Int) (a1 : Int) (a2 : Bool) : Option Bool := if (fineS l0_1 a0_2) = true then some true else none
theorem vireolaw09_TrapAsks.calls (a0_0 : Int) (A0_1 : Option Addr) (c0_1 : Nat) (l0_1 : List S68) (a0_2 : Int) (a1 : Int) (a2 : Bool) (r : Bool) (w : World) (hr0_1 : Kd.C k68 w A0_1 l0_1.length l0_1) (hc0_1 : l0_1.length ≤ c0_1) (h : vireolaw09_TrapAsks.f a0_0 l0_1 a0_2 a1 a2 = some r) :
    Calls Try.prog 8 #[.agg #[.int .i64 a0_0, .slice A0_1 l0_1.length c0_1, .int .u64 a0_2], .int .i64 a1, .bool a2] w fun e w' => e = .returned (.bool r) ∧ Below w.heap.size w w' := by
  unfold vireolaw09_TrapAsks.f at h
  split at h
  next hf =>
    obtain ⟨hx, k, rfl, hU⟩ := fineS_of hf
    obtain rfl := Option.some.inj h
    by_cases hb : bgOk a0_0 l0_1.length
    · exact task_yes a0_0 A0_1 c0_1 k l0_1 a1 a2 w hr0_1 hx hU hb 
    · exact task_no a0_0 A0_1 c0_1 k l0_1 a1 a2 w hr0_1 hb
  next => cases h
end Go.Proofs.Ytnknfepbekaobaa.PAs
