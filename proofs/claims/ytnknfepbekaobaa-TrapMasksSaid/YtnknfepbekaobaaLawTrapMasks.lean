/- The row of the law TrapMasks, laid by this seat's own program (wip/tools/rowgen.py) round its plain statement (YtnknfepbekaobaaPureTrapMasks): for every input the law returns true; no condition. -/
import Derived.Test.YtnknfepbekaobaaRows
import Derived.Test.YtnknfepbekaobaaPMax1
import Derived.Test.YtnknfepbekaobaaOpMa
import Derived.Test.YtnknfepbekaobaaPureTrapMasks
import Derived.WalkKit
import Derived.ProofKit
import Derived.OpenShut
import Derived.ShutString
import Derived.ChangeOld
import Derived.Below
namespace Go.Proofs.Ytnknfepbekaobaa.trapMasks
open Go.ChangeShapes Go.WideShapes Go.ChangeAt Go.RowKit
open Go.Proofs.Ytnknfepbekaobaa.PMa Go.Proofs.YtnknfepbekaobaaW.PrintWords Go.Proofs.Ytnknfepbekaobaa.Vo Go.Proofs.Ytnknfepbekaobaa.OpMa Go.Proofs.Ytnknfepbekaobaa.PAl
set_option linter.unusedVariables false
theorem own : ownKnob Try.prog.godebug = none := by kernel_rfl
theorem laidOut : laidOutB Try.prog = true := by kernel_rfl
set_option maxRecDepth 100000 in
theorem lifted (P : vireolaw09_TrapMasks.Pure2) (os : Os) (started : os.Started) (H : Type) (enc : TypeId × Value → H) :
    ReturnsInHanded {} Try.checked os 5 .any (Rows.trapMasksSpec.pre6 enc Try.prog Try.f5 Rows.trapMasksRow.domain false) (Rows.trapMasksSpec.post enc Try.prog Try.f5 false true false false) := by
  refine returnsInHanded_of_change (C := Try.checked) own started (by kernel_rfl) Try.func5
    (ChangeSpec.witness6 (enc := enc) (C := Try.checked) false ⟨#[], #[.agg #[.int .i64 0, .slice none 0 0, .int .u64 0]], []⟩ 8 (by kernel_rfl) (by kernel_rfl) (by kernel_rfl) (by kernel_rfl)) ?_
  intro W base args ds gs before hval0 hW hcnd _
  have hval : ∀ (j : Nat) t v, Try.f5.params[j]? = some t → args[j]? = some v → Value.okWide Try.prog W .any base t v := hval0
  have hW' := hW
  obtain ⟨p, q, hA0, hV, rfl, hfz, hnd⟩ := hW
  have hA : DataW.TrodAll enc Try.prog W 0 (fun _ => true) true Try.f5.params.toList args.toList ds p := hA0
  rw [Try.params5] at hA hval
  obtain ⟨v0, vs0, d0, ds0, p0, q0, hargs, rfl, rfl, h0, r0⟩ := trodAll_cons hA
  obtain ⟨rfl, rfl, rfl⟩ := trodAll_nil r0
  obtain rfl : args = #[v0] := by cases args; simp_all
  obtain ⟨rfl, rfl⟩ := trodVars_none hV
  have k0 := h0
  have lt0 : ∀ x ∈ p0, x.block < W.heap.size := by obtain ⟨m, hm⟩ := k0; exact DataW.trod_lt m _ _ _ hm
  obtain ⟨fu0, hf0⟩ := h0
  obtain ⟨b0, hk0, hg0⟩ := opens25 H enc W _ _ _ fu0 _ _ hf0
  obtain ⟨cs0, rfl, hz0⟩ := okWide_struct Try.underlying25 (hval 0 25 v0 rfl rfl)
  obtain ⟨A0_1, c0_1, e0, l0_1_, r0_1_⟩ := k25_open hk0
  obtain rfl : cs0 = #[.int .i64 b0.f0, .slice A0_1 b0.f1.length c0_1, .int .u64 b0.f2] := by apply Array.ext'; exact e0
  have hh := P b0 hg0
  clear hA0 hval0
  refine (vireolaw09_TrapMasks.calls b0.f0 _ _ b0.f1 b0.f2 true W r0_1_ l0_1_ hh).mono fun e W' ⟨he, bel0⟩ => ?_
  have bel : Below W.heap.size W W' := bel0
  subst he
  exact ⟨_, rfl, _, _, _, [], _, [], hW', trodAll_mk1 (shut_bool Try.underlying4 _), (trodAll_cons_mk (Below.trod laidOut (by kernel_rfl) (of_decide_eq_true (by kernel_rfl)) k0 bel lt0) trodAll_mk0), rfl, bel.frame _, fun h => by cases h⟩
theorem over (P : vireolaw09_TrapMasks.Pure2) : Rows.trapMasksRow.holds Try.pinned (OpenSpec.ofChange Rows.trapMasksSpec) :=
  OpenClaim.holds_of_wide 5 Try.f5 rfl rfl rfl rfl rfl rfl rfl ⟨rfl, rfl, rfl, rfl, rfl⟩ rfl rfl rfl rfl rfl (by kernel_rfl) Try.func5 (by kernel_rfl)
    (of_decide_eq_true (by kernel_rfl)) (by unfold Func.isWrapper; first | (rw [if_pos (by decide +kernel)]; kernel_rfl) | (rw [if_neg (by decide +kernel)]; exact ⟨rfl, rfl⟩))
    (fun os started H enc _ => lifted P os started H enc)
theorem proved : Rows.TrapMasksSaid := over Pure.TrapMasks
#print axioms proved
end Go.Proofs.Ytnknfepbekaobaa.trapMasks
