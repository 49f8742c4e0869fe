/- The row of the law CsrNumbers, laid by this seat's own program (wip/tools/rowgen.py) round its plain statement (YtkbnoeebnmphbaaPureCsrNumbers): for every input the law returns true; no condition. -/
import Derived.Test.YtkbnoeebnmphbaaRows
import Derived.Test.YtkbnoeebnmphbaaPNux1
import Derived.Test.YtkbnoeebnmphbaaOpNu
import Derived.Test.YtkbnoeebnmphbaaPureCsrNumbers
import Derived.WalkKit
import Derived.ProofKit
import Derived.OpenShut
import Derived.ShutString
import Derived.ChangeOld
import Derived.Below
namespace Go.Proofs.Ytkbnoeebnmphbaa.csrNumbers
open Go.ChangeShapes Go.WideShapes Go.ChangeAt Go.RowKit
open Go.Proofs.Ytkbnoeebnmphbaa.PNu Go.Proofs.YtkbnoeebnmphbaaW.PrintWords Go.Proofs.Ytkbnoeebnmphbaa.Vo Go.Proofs.Ytkbnoeebnmphbaa.OpNu Go.Proofs.Ytkbnoeebnmphbaa.PAl
set_option linter.unusedVariables false
theorem own : ownKnob Try.prog.godebug = none := by kernel_rfl
theorem laidOut : laidOutB Try.prog = true := by kernel_rfl
set_option maxRecDepth 100000 in
theorem lifted (P : vireolaw08_CsrNumbers.Pure2) (os : Os) (started : os.Started) (H : Type) (enc : TypeId × Value → H) :
    ReturnsInHanded {} Try.checked os 3 .any (Rows.csrNumbersSpec.pre6 enc Try.prog Try.f3 Rows.csrNumbersRow.domain false) (Rows.csrNumbersSpec.post enc Try.prog Try.f3 false true false false) := by
  refine returnsInHanded_of_change (C := Try.checked) own started (by kernel_rfl) Try.func3
    (ChangeSpec.witness6 (enc := enc) (C := Try.checked) false ⟨#[], #[.int .i64 0], []⟩ 8 (by kernel_rfl) (by kernel_rfl) (by kernel_rfl) (by kernel_rfl)) ?_
  intro W base args ds gs before hval0 hW hcnd _
  have hval : ∀ (j : Nat) t v, Try.f3.params[j]? = some t → args[j]? = some v → Value.okWide Try.prog W .any base t v := hval0
  have hW' := hW
  obtain ⟨p, q, hA0, hV, rfl, hfz, hnd⟩ := hW
  have hA : DataW.TrodAll enc Try.prog W 0 (fun _ => true) true Try.f3.params.toList args.toList ds p := hA0
  rw [Try.params3] at hA hval
  obtain ⟨v0, vs0, d0, ds0, p0, q0, hargs, rfl, rfl, h0, r0⟩ := trodAll_cons hA
  obtain ⟨rfl, rfl, rfl⟩ := trodAll_nil r0
  obtain rfl : args = #[v0] := by cases args; simp_all
  obtain ⟨rfl, rfl⟩ := trodVars_none hV
  have k0 := h0
  have lt0 : ∀ x ∈ p0, x.block < W.heap.size := by obtain ⟨m, hm⟩ := k0; exact DataW.trod_lt m _ _ _ hm
  obtain ⟨fu0, hf0⟩ := h0
  obtain ⟨b0, hk0, hg0⟩ := opens3 H enc W _ _ _ fu0 _ _ hf0
  obtain rfl : v0 = .int .i64 b0 := by
    have hk := hk0
    obtain ⟨z, hz⟩ := okWide_int Try.underlying3 (hval 0 3 v0 rfl rfl)
    have hz' := hz
    first | (subst hz; exact (List.cons.inj hk).1) | (rw [hz'.1] at hk ⊢; exact (List.cons.inj hk).1)
  have hh := P b0 hg0
  clear hA0 hval0
  refine (vireolaw08_CsrNumbers.calls b0 true W hh).mono fun e W' ⟨he, bel0⟩ => ?_
  have bel : Below W.heap.size W W' := bel0
  subst he
  exact ⟨_, rfl, _, _, _, [], _, [], hW', trodAll_mk1 (shut_bool Try.underlying4 _), (trodAll_cons_mk (Below.trod laidOut (by kernel_rfl) (of_decide_eq_true (by kernel_rfl)) k0 bel lt0) trodAll_mk0), rfl, bel.frame _, fun h => by cases h⟩
theorem over (P : vireolaw08_CsrNumbers.Pure2) : Rows.csrNumbersRow.holds Try.pinned (OpenSpec.ofChange Rows.csrNumbersSpec) :=
  OpenClaim.holds_of_wide 3 Try.f3 rfl rfl rfl rfl rfl rfl rfl ⟨rfl, rfl, rfl, rfl, rfl⟩ rfl rfl rfl rfl rfl (by kernel_rfl) Try.func3 (by kernel_rfl)
    (of_decide_eq_true (by kernel_rfl)) (by unfold Func.isWrapper; first | (rw [if_pos (by decide +kernel)]; kernel_rfl) | (rw [if_neg (by decide +kernel)]; exact ⟨rfl, rfl⟩))
    (fun os started H enc _ => lifted P os started H enc)
theorem proved : Rows.CsrNumbersSaid := over Pure.CsrNumbers
#print axioms proved
end Go.Proofs.Ytkbnoeebnmphbaa.csrNumbers
