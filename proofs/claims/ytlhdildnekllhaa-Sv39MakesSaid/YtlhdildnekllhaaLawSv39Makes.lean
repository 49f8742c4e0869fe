/- The row of the law Sv39Makes, laid by this seat's own program (wip/tools/rowgen.py) round its plain statement (YtlhdildnekllhaaPureSv39Makes): for every input the law returns true; no condition. -/
import Derived.Test.YtlhdildnekllhaaRows
import Derived.Test.YtlhdildnekllhaaPMkx1
import Derived.Test.YtlhdildnekllhaaOpMk
import Derived.Test.YtlhdildnekllhaaPureSv39Makes
import Derived.WalkKit
import Derived.ProofKit
import Derived.OpenShut
import Derived.ShutString
import Derived.ChangeOld
import Derived.Below
namespace Go.Proofs.Ytlhdildnekllhaa.sv39Makes
open Go.ChangeShapes Go.WideShapes Go.ChangeAt Go.RowKit
open Go.Proofs.Ytlhdildnekllhaa.PMk Go.Proofs.YtlhdildnekllhaaW.PrintWords Go.Proofs.Ytlhdildnekllhaa.Vo Go.Proofs.Ytlhdildnekllhaa.OpMk Go.Proofs.Ytlhdildnekllhaa.PAl
set_option linter.unusedVariables false
theorem own : ownKnob Try.prog.godebug = none := by kernel_rfl
theorem laidOut : laidOutB Try.prog = true := by kernel_rfl
set_option maxRecDepth 100000 in
theorem lifted (P : vireolaw10_Sv39Makes.Pure2) (os : Os) (started : os.Started) (H : Type) (enc : TypeId × Value → H) :
    ReturnsInHanded {} Try.checked os 5 .any (Rows.sv39MakesSpec.pre6 enc Try.prog Try.f5 Rows.sv39MakesRow.domain false) (Rows.sv39MakesSpec.post enc Try.prog Try.f5 false true false false) := by
  refine returnsInHanded_of_change (C := Try.checked) own started (by kernel_rfl) Try.func5
    (ChangeSpec.witness6 (enc := enc) (C := Try.checked) false ⟨#[], #[.int .u64 0, .bool false], []⟩ 8 (by kernel_rfl) (by kernel_rfl) (by kernel_rfl) (by kernel_rfl)) ?_
  intro W base args ds gs before hval0 hW hcnd _
  have hval : ∀ (j : Nat) t v, Try.f5.params[j]? = some t → args[j]? = some v → Value.okWide Try.prog W .any base t v := hval0
  have hW' := hW
  obtain ⟨p, q, hA0, hV, rfl, hfz, hnd⟩ := hW
  have hA : DataW.TrodAll enc Try.prog W 0 (fun _ => true) true Try.f5.params.toList args.toList ds p := hA0
  rw [Try.params5] at hA hval
  obtain ⟨v0, vs0, d0, ds0, p0, q0, hargs, rfl, rfl, h0, r0⟩ := trodAll_cons hA
  obtain ⟨v1, vs1, d1, ds1, p1, q1, rfl, rfl, rfl, h1, r1⟩ := trodAll_cons r0
  obtain ⟨rfl, rfl, rfl⟩ := trodAll_nil r1
  obtain rfl : args = #[v0, v1] := by cases args; simp_all
  obtain ⟨rfl, rfl⟩ := trodVars_none hV
  have k0 := h0
  have lt0 : ∀ x ∈ p0, x.block < W.heap.size := by obtain ⟨m, hm⟩ := k0; exact DataW.trod_lt m _ _ _ hm
  obtain ⟨fu0, hf0⟩ := h0
  obtain ⟨b0, hk0, hg0⟩ := opens23 H enc W _ _ _ fu0 _ _ hf0
  obtain rfl : v0 = .int .u64 b0 := by
    have hk := hk0
    obtain ⟨z, hz⟩ := okWide_int Try.underlying23 (hval 0 23 v0 rfl rfl)
    have hz' := hz
    first | (subst hz; exact (List.cons.inj hk).1) | (rw [hz'.1] at hk ⊢; exact (List.cons.inj hk).1)
  have k1 := h1
  have lt1 : ∀ x ∈ p1, x.block < W.heap.size := by obtain ⟨m, hm⟩ := k1; exact DataW.trod_lt m _ _ _ hm
  obtain ⟨fu1, hf1⟩ := h1
  obtain ⟨b1, hk1, hg1⟩ := opens4 H enc W _ _ _ fu1 _ _ hf1
  obtain rfl : v1 = .bool b1 := by
    have hk := hk1
    obtain ⟨z, hz⟩ := okWide_bool Try.underlying4 (hval 1 4 v1 rfl rfl)
    have hz' := hz
    first | (subst hz; exact (List.cons.inj hk).1) | (rw [hz'.1] at hk ⊢; exact (List.cons.inj hk).1)
  have hh := P b0 b1 hg0 hg1
  clear hA0 hval0
  refine (vireolaw10_Sv39Makes.calls b0 b1 true W hh).mono fun e W' ⟨he, bel0⟩ => ?_
  have bel : Below W.heap.size W W' := bel0
  subst he
  exact ⟨_, rfl, _, _, _, [], _, [], hW', trodAll_mk1 (shut_bool Try.underlying4 _), (trodAll_cons_mk (Below.trod laidOut (by kernel_rfl) (of_decide_eq_true (by kernel_rfl)) k0 bel lt0) (trodAll_cons_mk (Below.trod laidOut (by kernel_rfl) (of_decide_eq_true (by kernel_rfl)) k1 bel lt1) trodAll_mk0)), rfl, bel.frame _, fun h => by cases h⟩
theorem over (P : vireolaw10_Sv39Makes.Pure2) : Rows.sv39MakesRow.holds Try.pinned (OpenSpec.ofChange Rows.sv39MakesSpec) :=
  OpenClaim.holds_of_wide 5 Try.f5 rfl rfl rfl rfl rfl rfl rfl ⟨rfl, rfl, rfl, rfl, rfl⟩ rfl rfl rfl rfl rfl (by kernel_rfl) Try.func5 (by kernel_rfl)
    (of_decide_eq_true (by kernel_rfl)) (by unfold Func.isWrapper; first | (rw [if_pos (by decide +kernel)]; kernel_rfl) | (rw [if_neg (by decide +kernel)]; exact ⟨rfl, rfl⟩))
    (fun os started H enc _ => lifted P os started H enc)
theorem proved : Rows.Sv39MakesSaid := over Pure.Sv39Makes
#print axioms proved
end Go.Proofs.Ytlhdildnekllhaa.sv39Makes
