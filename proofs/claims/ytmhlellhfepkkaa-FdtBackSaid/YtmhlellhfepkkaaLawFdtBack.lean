/- The row of the law FdtBack, laid by this seat's own program (wip/tools/rowgen.py) round its plain statement (YtmhlellhfepkkaaPureFdtBack): for every input the law returns true; no condition. -/
import Derived.Test.YtmhlellhfepkkaaRows
import Derived.Test.YtmhlellhfepkkaaLq
import Derived.Test.YtmhlellhfepkkaaOpBk
import Derived.Test.YtmhlellhfepkkaaPureFdtBack
import Derived.WalkKit
import Derived.ProofKit
import Derived.OpenShut
import Derived.ShutString
import Derived.ChangeOld
import Derived.Below
namespace Go.Proofs.Ytmhlellhfepkkaa.fdtBack
open Go.ChangeShapes Go.WideShapes Go.ChangeAt Go.RowKit
open Go.Proofs.Ytmhlellhfepkkaa.PAl Go.Proofs.YtmhlellhfepkkaaW.PrintWords Go.Proofs.Ytmhlellhfepkkaa.Vo Go.Proofs.Ytmhlellhfepkkaa.OpBk
set_option linter.unusedVariables false
theorem own : ownKnob Try.prog.godebug = none := by kernel_rfl
theorem laidOut : laidOutB Try.prog = true := by kernel_rfl
set_option maxRecDepth 100000 in
theorem lifted (P : vireolaw26_FdtBack.Pure2) (os : Os) (started : os.Started) (H : Type) (enc : TypeId × Value → H) :
    ReturnsInHanded {} Try.checked os 7 .any (Rows.fdtBackSpec.pre6 enc Try.prog Try.f7 Rows.fdtBackRow.domain false) (Rows.fdtBackSpec.post enc Try.prog Try.f7 false true false false) := by
  refine returnsInHanded_of_change (C := Try.checked) own started (by kernel_rfl) Try.func7
    (ChangeSpec.witness6 (enc := enc) (C := Try.checked) false ⟨#[], #[.slice none 0 0], []⟩ 8 (by kernel_rfl) (by kernel_rfl) (by kernel_rfl) (by kernel_rfl)) ?_
  intro W base args ds gs before hval0 hW hcnd _
  have hval : ∀ (j : Nat) t v, Try.f7.params[j]? = some t → args[j]? = some v → Value.okWide Try.prog W .any base t v := hval0
  have hW' := hW
  obtain ⟨p, q, hA0, hV, rfl, hfz, hnd⟩ := hW
  have hA : DataW.TrodAll enc Try.prog W 0 (fun _ => true) true Try.f7.params.toList args.toList ds p := hA0
  rw [Try.params7] at hA hval
  obtain ⟨v0, vs0, d0, ds0, p0, q0, hargs, rfl, rfl, h0, r0⟩ := trodAll_cons hA
  obtain ⟨rfl, rfl, rfl⟩ := trodAll_nil r0
  obtain rfl : args = #[v0] := by cases args; simp_all
  obtain ⟨rfl, rfl⟩ := trodVars_none hV
  have k0 := h0
  have lt0 : ∀ x ∈ p0, x.block < W.heap.size := by obtain ⟨m, hm⟩ := k0; exact DataW.trod_lt m _ _ _ hm
  obtain ⟨fu0, hf0⟩ := h0
  obtain ⟨b0, hk0, hg0⟩ := opens22 H enc W _ _ _ fu0 _ _ hf0
  obtain ⟨an0, ln0, cn0, rfl⟩ := okWide_slice Try.underlying22 (hval 0 22 v0 rfl rfl)
  obtain ⟨A0, c0, e0, l0_, r0_⟩ := hk0
  have e0' : (.slice an0 ln0 cn0 : Value) = .slice A0 b0.length c0 := (List.cons.inj e0).1
  obtain ⟨rfl, rfl, rfl⟩ : an0 = A0 ∧ ln0 = b0.length ∧ cn0 = c0 := by injection e0' with x y z; exact ⟨x, y, z⟩
  obtain ⟨kk, hh⟩ := P b0 hg0
  clear hA0 hval0
  refine (vireolaw26_FdtBack.calls kk _ _ b0 true W r0_ l0_ hh).mono fun e W' ⟨he, bel0⟩ => ?_
  have bel : Below W.heap.size W W' := bel0
  subst he
  exact ⟨_, rfl, _, _, _, [], _, [], hW', trodAll_mk1 (shut_bool Try.underlying4 _), (trodAll_cons_mk (Below.trod laidOut (by kernel_rfl) (of_decide_eq_true (by kernel_rfl)) k0 bel lt0) trodAll_mk0), rfl, bel.frame _, fun h => by cases h⟩
theorem over (P : vireolaw26_FdtBack.Pure2) : Rows.fdtBackRow.holds Try.pinned (OpenSpec.ofChange Rows.fdtBackSpec) :=
  OpenClaim.holds_of_wide 7 Try.f7 rfl rfl rfl rfl rfl rfl rfl ⟨rfl, rfl, rfl, rfl, rfl⟩ rfl rfl rfl rfl rfl (by kernel_rfl) Try.func7 (by kernel_rfl)
    (of_decide_eq_true (by kernel_rfl)) (by unfold Func.isWrapper; first | (rw [if_pos (by decide +kernel)]; kernel_rfl) | (rw [if_neg (by decide +kernel)]; exact ⟨rfl, rfl⟩))
    (fun os started H enc _ => lifted P os started H enc)
theorem proved : Rows.FdtBackSaid := over Pure.FdtBack
#print axioms proved
end Go.Proofs.Ytmhlellhfepkkaa.fdtBack
