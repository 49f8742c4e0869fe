/- Sv39Keeps: the law of what a walk comes to, with no program in sight. -/
import Derived.Test.YtlhdildnekllhaaTb
namespace Go.Proofs.Ytlhdildnekllhaa.H
open Go.RowKit Go.Proofs.YtlhdildnekllhaaW.PrintWords Go.Proofs.YtlhdildnekllhaaW.PrintLast Go.Proofs.Ytlhdildnekllhaa.PAl Go.Proofs.Ytlhdildnekllhaa.Pure Go.Proofs.Ytlhdildnekllhaa.Vw
set_option linter.unusedVariables false
set_option linter.unusedSimpArgs false
structure keepsP (R : RS) (va : Nat) : Prop where
  r0 : 0 ≤ R.reads
  r3 : R.reads ≤ 3
  pf : R.page = true → R.fault = true
  fa : R.fault = true → R.addr = 0
  fm : R.fault = false → R.addr % 4096 = va % 4096
theorem low12 (x va : Nat) (l : Nat) (hl : l ≤ 2) : (pageW x ||| getW va 0 (12 + 9 * (l : Int))) % 4096 = va % 4096 := by
  have e1 : pageW x % 2 ^ 12 = 0 := by unfold pageW; omega
  have e2 : getW va 0 (12 + 9 * (l : Int)) % 2 ^ 12 = va % 2 ^ 12 := by
    rcases l with _ | _ | _ | l
    · simp [getW, show cnt 12 = 12 from by decide]
    · simp [getW, show cnt 21 = 21 from by decide]
    · simp [getW, show cnt 30 = 30 from by decide]
    · omega
  rw [show (4096 : Nat) = 2 ^ 12 from rfl, Nat.or_mod_two_pow, e1, e2, Nat.zero_or]
theorem keepsP.bad (l : Nat) (hl : l ≤ 2) (va : Nat) : keepsP (badR l) va := ⟨by show (0 : Int) ≤ 3 - (l : Int); omega, by show 3 - (l : Int) ≤ 3; omega, fun _ => rfl, fun _ => rfl, fun h => by cases h⟩
theorem walkL_keeps (M : Nat → Nat) (size : Nat) (kd md : Int) (sum mxr : Bool) (va : Nat) : ∀ (l T : Nat), l ≤ 3 → keepsP (walkL M size kd md sum mxr va l T) va
  | 0, _, _ => ⟨by show (0 : Int) ≤ 3; omega, by show (3 : Int) ≤ 3; omega, fun _ => rfl, fun _ => rfl, fun h => by cases h⟩
  | l + 1, T, hl => by
    unfold walkL
    split
    · exact ⟨by show (0 : Int) ≤ 2 - (l : Int); omega, by show 2 - (l : Int) ≤ 3; omega, (fun h => by cases h), fun _ => rfl, fun h => by cases h⟩
    split
    · exact keepsP.bad l (by omega) va
    split
    · exact walkL_keeps M size kd md sum mxr va l _ (by omega)
    split
    · exact keepsP.bad l (by omega) va
    · exact ⟨by show (0 : Int) ≤ 3 - (l : Int); omega, by show 3 - (l : Int) ≤ 3; omega, (fun h => by cases h), (fun h => by cases h), fun _ => low12 _ va l (by omega)⟩
theorem walkW_keeps (M : Nat → Nat) (size sp : Nat) (kd md : Int) (sum mxr : Bool) (va : Nat) : keepsP (walkW M size sp kd md sum mxr va) va := by
  unfold walkW
  split
  · exact ⟨by show (0 : Int) ≤ 0; omega, by show (0 : Int) ≤ 3; omega, (fun h => by cases h), (fun h => by cases h), fun _ => rfl⟩
  split
  · exact ⟨by show (0 : Int) ≤ 0; omega, by show (0 : Int) ≤ 3; omega, fun _ => rfl, fun _ => rfl, fun h => by cases h⟩
  · exact walkL_keeps M size kd md sum mxr va 3 _ (by omega)
end Go.Proofs.Ytlhdildnekllhaa.H
