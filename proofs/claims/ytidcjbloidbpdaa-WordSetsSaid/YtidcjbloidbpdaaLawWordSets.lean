/- The row of the law WordSets, laid by this seat's own program (wip/tools/rowgen.py) round its plain statement (YtidcjbloidbpdaaPureWordSets): for every input the law returns true; no condition. -/
import Derived.Test.YtidcjbloidbpdaaRows
import Derived.Test.YtidcjbloidbpdaaPArrx5
import Derived.Test.YtidcjbloidbpdaaOpArr
import Derived.Test.YtidcjbloidbpdaaPureWordSets
import Derived.WalkKit
import Derived.ProofKit
import Derived.OpenShut
import Derived.ShutString
import Derived.ChangeOld
import Derived.Below
namespace Go.Proofs.Ytidcjbloidbpdaa.wordSets
open Go.ChangeShapes Go.WideShapes Go.ChangeAt Go.RowKit
open Go.Proofs.Ytidcjbloidbpdaa.PArr Go.Proofs.YtidcjbloidbpdaaW.PrintWords Go.Proofs.Ytidcjbloidbpdaa.Vo Go.Proofs.Ytidcjbloidbpdaa.OpArr
set_option linter.unusedVariables false
theorem own : ownKnob Try.prog.godebug = none := by kernel_rfl
theorem laidOut : laidOutB Try.prog = true := by kernel_rfl
set_option maxRecDepth 100000 in
theorem lifted (P : vireolaw01_WordSets.Pure2) (os : Os) (started : os.Started) (H : Type) (enc : TypeId × Value → H) :
    ReturnsInHanded {} Try.checked os 10 .any (Rows.wordSetsSpec.pre6 enc Try.prog Try.f10 Rows.wordSetsRow.domain false) (Rows.wordSetsSpec.post enc Try.prog Try.f10 false true false false) := by
  refine returnsInHanded_of_change (C := Try.checked) own started (by kernel_rfl) Try.func10
    (ChangeSpec.witness6 (enc := enc) (C := Try.checked) false ⟨#[], #[.slice none 0 0, .int .u64 0, .slice none 0 0], []⟩ 8 (by kernel_rfl) (by kernel_rfl) (by kernel_rfl) (by kernel_rfl)) ?_
  intro W base args ds gs before hval0 hW hcnd _
  have hval : ∀ (j : Nat) t v, Try.f10.params[j]? = some t → args[j]? = some v → Value.okWide Try.prog W .any base t v := hval0
  have hW' := hW
  obtain ⟨p, q, hA0, hV, rfl, hfz, hnd⟩ := hW
  have hA : DataW.TrodAll enc Try.prog W 0 (fun _ => true) true Try.f10.params.toList args.toList ds p := hA0
  rw [Try.params10] at hA hval
  obtain ⟨v0, vs0, d0, ds0, p0, q0, hargs, rfl, rfl, h0, r0⟩ := trodAll_cons hA
  obtain ⟨v1, vs1, d1, ds1, p1, q1, rfl, rfl, rfl, h1, r1⟩ := trodAll_cons r0
  obtain ⟨v2, vs2, d2, ds2, p2, q2, rfl, rfl, rfl, h2, r2⟩ := trodAll_cons r1
  obtain ⟨rfl, rfl, rfl⟩ := trodAll_nil r2
  obtain rfl : args = #[v0, v1, v2] := by cases args; simp_all
  obtain ⟨rfl, rfl⟩ := trodVars_none hV
  have k0 := h0
  have lt0 : ∀ x ∈ p0, x.block < W.heap.size := by obtain ⟨m, hm⟩ := k0; exact DataW.trod_lt m _ _ _ hm
  obtain ⟨fu0, hf0⟩ := h0
  obtain ⟨b0, hk0, hg0⟩ := opens42 H enc W _ _ _ fu0 _ _ hf0
  obtain ⟨an0, ln0, cn0, rfl⟩ := okWide_slice Try.underlying42 (hval 0 42 v0 rfl rfl)
  obtain ⟨A0, c0, e0, l0_, r0_⟩ := hk0
  have e0' : (.slice an0 ln0 cn0 : Value) = .slice A0 b0.length c0 := (List.cons.inj e0).1
  obtain ⟨rfl, rfl, rfl⟩ : an0 = A0 ∧ ln0 = b0.length ∧ cn0 = c0 := by injection e0' with x y z; exact ⟨x, y, z⟩
  have k1 := h1
  have lt1 : ∀ x ∈ p1, x.block < W.heap.size := by obtain ⟨m, hm⟩ := k1; exact DataW.trod_lt m _ _ _ hm
  obtain ⟨fu1, hf1⟩ := h1
  obtain ⟨b1, hk1, hg1⟩ := opens22 H enc W _ _ _ fu1 _ _ hf1
  obtain rfl : v1 = .int .u64 b1 := by
    have hk := hk1
    obtain ⟨z, hz⟩ := okWide_int Try.underlying22 (hval 1 22 v1 rfl rfl)
    have hz' := hz
    first | (subst hz; exact (List.cons.inj hk).1) | (rw [hz'.1] at hk ⊢; exact (List.cons.inj hk).1)
  have k2 := h2
  have lt2 : ∀ x ∈ p2, x.block < W.heap.size := by obtain ⟨m, hm⟩ := k2; exact DataW.trod_lt m _ _ _ hm
  obtain ⟨fu2, hf2⟩ := h2
  obtain ⟨b2, hk2, hg2⟩ := opens43 H enc W _ _ _ fu2 _ _ hf2
  obtain ⟨an2, ln2, cn2, rfl⟩ := okWide_slice Try.underlying43 (hval 2 43 v2 rfl rfl)
  obtain ⟨A2, c2, e2, l2_, r2_⟩ := hk2
  have e2' : (.slice an2 ln2 cn2 : Value) = .slice A2 b2.length c2 := (List.cons.inj e2).1
  obtain ⟨rfl, rfl, rfl⟩ : an2 = A2 ∧ ln2 = b2.length ∧ cn2 = c2 := by injection e2' with x y z; exact ⟨x, y, z⟩
  obtain ⟨kk, hh⟩ := P b0 b1 b2 hg0 hg1 hg2
  clear hA0 hval0
  refine (vireolaw01_WordSets.calls kk _ _ b0 b1 _ _ b2 true W r0_ l0_ r2_ l2_ hh).mono fun e W' ⟨he, bel0⟩ => ?_
  have bel : Below W.heap.size W W' := bel0
  subst he
  exact ⟨_, rfl, _, _, _, [], _, [], hW', trodAll_mk1 (shut_bool Try.underlying4 _), (trodAll_cons_mk (Below.trod laidOut (by kernel_rfl) (of_decide_eq_true (by kernel_rfl)) k0 bel lt0) (trodAll_cons_mk (Below.trod laidOut (by kernel_rfl) (of_decide_eq_true (by kernel_rfl)) k1 bel lt1) (trodAll_cons_mk (Below.trod laidOut (by kernel_rfl) (of_decide_eq_true (by kernel_rfl)) k2 bel lt2) trodAll_mk0))), rfl, bel.frame _, fun h => by cases h⟩
theorem over (P : vireolaw01_WordSets.Pure2) : Rows.wordSetsRow.holds Try.pinned (OpenSpec.ofChange Rows.wordSetsSpec) :=
  OpenClaim.holds_of_wide 10 Try.f10 rfl rfl rfl rfl rfl rfl rfl ⟨rfl, rfl, rfl, rfl, rfl⟩ rfl rfl rfl rfl rfl (by kernel_rfl) Try.func10 (by kernel_rfl)
    (of_decide_eq_true (by kernel_rfl)) (by unfold Func.isWrapper; first | (rw [if_pos (by decide +kernel)]; kernel_rfl) | (rw [if_neg (by decide +kernel)]; exact ⟨rfl, rfl⟩))
    (fun os started H enc _ => lifted P os started H enc)
theorem proved : Rows.WordSetsSaid := over Pure.WordSets
#print axioms proved
end Go.Proofs.Ytidcjbloidbpdaa.wordSets
