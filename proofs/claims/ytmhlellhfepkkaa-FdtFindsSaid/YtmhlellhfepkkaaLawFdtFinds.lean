/- The row of the law FdtFinds, laid by this seat's own program (wip/tools/rowgen.py) round its plain statement (YtmhlellhfepkkaaPureFdtFinds): for every input the law returns true; no condition. -/
import Derived.Test.YtmhlellhfepkkaaRows
import Derived.Test.YtmhlellhfepkkaaLd
import Derived.Test.YtmhlellhfepkkaaOpFi
import Derived.Test.YtmhlellhfepkkaaPureFdtFinds
import Derived.WalkKit
import Derived.ProofKit
import Derived.OpenShut
import Derived.ShutString
import Derived.ChangeOld
import Derived.Below
namespace Go.Proofs.Ytmhlellhfepkkaa.fdtFinds
open Go.ChangeShapes Go.WideShapes Go.ChangeAt Go.RowKit
open Go.Proofs.Ytmhlellhfepkkaa.PAl Go.Proofs.YtmhlellhfepkkaaW.PrintWords Go.Proofs.Ytmhlellhfepkkaa.Vo Go.Proofs.Ytmhlellhfepkkaa.OpFi
set_option linter.unusedVariables false
theorem own : ownKnob Try.prog.godebug = none := by kernel_rfl
theorem laidOut : laidOutB Try.prog = true := by kernel_rfl
set_option maxRecDepth 100000 in
theorem lifted (P : vireolaw26_FdtFinds.Pure2) (os : Os) (started : os.Started) (H : Type) (enc : TypeId × Value → H) :
    ReturnsInHanded {} Try.checked os 5 .any (Rows.fdtFindsSpec.pre6 enc Try.prog Try.f5 Rows.fdtFindsRow.domain false) (Rows.fdtFindsSpec.post enc Try.prog Try.f5 false true false false) := by
  refine returnsInHanded_of_change (C := Try.checked) own started (by kernel_rfl) Try.func5
    (ChangeSpec.witness6 (enc := enc) (C := Try.checked) false ⟨#[], #[.slice none 0 0, .slice none 0 0, .string ByteArray.empty], []⟩ 8 (by kernel_rfl) (by kernel_rfl) (by kernel_rfl) (by kernel_rfl)) ?_
  intro W base args ds gs before hval0 hW hcnd _
  have hval : ∀ (j : Nat) t v, Try.f5.params[j]? = some t → args[j]? = some v → Value.okWide Try.prog W .any base t v := hval0
  have hW' := hW
  obtain ⟨p, q, hA0, hV, rfl, hfz, hnd⟩ := hW
  have hA : DataW.TrodAll enc Try.prog W 0 (fun _ => true) true Try.f5.params.toList args.toList ds p := hA0
  rw [Try.params5] at hA hval
  obtain ⟨v0, vs0, d0, ds0, p0, q0, hargs, rfl, rfl, h0, r0⟩ := trodAll_cons hA
  obtain ⟨v1, vs1, d1, ds1, p1, q1, rfl, rfl, rfl, h1, r1⟩ := trodAll_cons r0
  obtain ⟨v2, vs2, d2, ds2, p2, q2, rfl, rfl, rfl, h2, r2⟩ := trodAll_cons r1
  obtain ⟨rfl, rfl, rfl⟩ := trodAll_nil r2
  obtain rfl : args = #[v0, v1, v2] := by cases args; simp_all
  obtain ⟨rfl, rfl⟩ := trodVars_none hV
  have k0 := h0
  have lt0 : ∀ x ∈ p0, x.block < W.heap.size := by obtain ⟨m, hm⟩ := k0; exact DataW.trod_lt m _ _ _ hm
  obtain ⟨fu0, hf0⟩ := h0
  obtain ⟨b0, hk0, hg0⟩ := opens22 H enc W _ _ _ fu0 _ _ hf0
  obtain ⟨an0, ln0, cn0, rfl⟩ := okWide_slice Try.underlying22 (hval 0 22 v0 rfl rfl)
  obtain ⟨A0, c0, e0, l0_, r0_⟩ := hk0
  have e0' : (.slice an0 ln0 cn0 : Value) = .slice A0 b0.length c0 := (List.cons.inj e0).1
  obtain ⟨rfl, rfl, rfl⟩ : an0 = A0 ∧ ln0 = b0.length ∧ cn0 = c0 := by injection e0' with x y z; exact ⟨x, y, z⟩
  have k1 := h1
  have lt1 : ∀ x ∈ p1, x.block < W.heap.size := by obtain ⟨m, hm⟩ := k1; exact DataW.trod_lt m _ _ _ hm
  obtain ⟨fu1, hf1⟩ := h1
  obtain ⟨b1, hk1, hg1⟩ := opens38 H enc W _ _ _ fu1 _ _ hf1
  obtain ⟨an1, ln1, cn1, rfl⟩ := okWide_slice Try.underlying38 (hval 1 38 v1 rfl rfl)
  obtain ⟨A1, c1, e1, l1_, r1_⟩ := hk1
  have e1' : (.slice an1 ln1 cn1 : Value) = .slice A1 b1.length c1 := (List.cons.inj e1).1
  obtain ⟨rfl, rfl, rfl⟩ : an1 = A1 ∧ ln1 = b1.length ∧ cn1 = c1 := by injection e1' with x y z; exact ⟨x, y, z⟩
  have k2 := h2
  have lt2 : ∀ x ∈ p2, x.block < W.heap.size := by obtain ⟨m, hm⟩ := k2; exact DataW.trod_lt m _ _ _ hm
  obtain ⟨fu2, hf2⟩ := h2
  obtain ⟨b2, hk2, hg2⟩ := opens9 H enc W _ _ _ fu2 _ _ hf2
  obtain rfl : v2 = .string b2 := by
    have hk := hk2
    obtain ⟨z, hz⟩ := okWide_string Try.underlying9 (hval 2 9 v2 rfl rfl)
    have hz' := hz
    first | (subst hz; exact (List.cons.inj hk).1) | (rw [hz'.1] at hk ⊢; exact (List.cons.inj hk).1)
  obtain ⟨kk, hh⟩ := P b0 b1 b2 hg0 hg1 hg2
  clear hA0 hval0
  refine (vireolaw26_FdtFinds.calls kk _ _ b0 _ _ b1 b2 true W r0_ l0_ r1_ l1_ hh).mono fun e W' ⟨he, bel0⟩ => ?_
  have bel : Below W.heap.size W W' := bel0
  subst he
  exact ⟨_, rfl, _, _, _, [], _, [], hW', trodAll_mk1 (shut_bool Try.underlying4 _), (trodAll_cons_mk (Below.trod laidOut (by kernel_rfl) (of_decide_eq_true (by kernel_rfl)) k0 bel lt0) (trodAll_cons_mk (Below.trod laidOut (by kernel_rfl) (of_decide_eq_true (by kernel_rfl)) k1 bel lt1) (trodAll_cons_mk (Below.trod laidOut (by kernel_rfl) (of_decide_eq_true (by kernel_rfl)) k2 bel lt2) trodAll_mk0))), rfl, bel.frame _, fun h => by cases h⟩
theorem over (P : vireolaw26_FdtFinds.Pure2) : Rows.fdtFindsRow.holds Try.pinned (OpenSpec.ofChange Rows.fdtFindsSpec) :=
  OpenClaim.holds_of_wide 5 Try.f5 rfl rfl rfl rfl rfl rfl rfl ⟨rfl, rfl, rfl, rfl, rfl⟩ rfl rfl rfl rfl rfl (by kernel_rfl) Try.func5 (by kernel_rfl)
    (of_decide_eq_true (by kernel_rfl)) (by unfold Func.isWrapper; first | (rw [if_pos (by decide +kernel)]; kernel_rfl) | (rw [if_neg (by decide +kernel)]; exact ⟨rfl, rfl⟩))
    (fun os started H enc _ => lifted P os started H enc)
theorem proved : Rows.FdtFindsSaid := over Pure.FdtFinds
#print axioms proved
end Go.Proofs.Ytmhlellhfepkkaa.fdtFinds
