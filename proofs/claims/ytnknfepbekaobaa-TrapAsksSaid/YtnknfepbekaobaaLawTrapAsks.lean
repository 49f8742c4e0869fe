/- The row of the law TrapAsks, laid by this seat's own program (wip/tools/rowgen.py) round its plain statement (YtnknfepbekaobaaPureTrapAsks): for every input the law returns true; no condition. -/
import Derived.Test.YtnknfepbekaobaaRows
import Derived.Test.YtnknfepbekaobaaPAsx1
import Derived.Test.YtnknfepbekaobaaOpAs
import Derived.Test.YtnknfepbekaobaaPureTrapAsks
import Derived.WalkKit
import Derived.ProofKit
import Derived.OpenShut
import Derived.ShutString
import Derived.ChangeOld
import Derived.Below
namespace Go.Proofs.Ytnknfepbekaobaa.trapAsks
open Go.ChangeShapes Go.WideShapes Go.ChangeAt Go.RowKit
open Go.Proofs.Ytnknfepbekaobaa.PAs Go.Proofs.YtnknfepbekaobaaW.PrintWords Go.Proofs.Ytnknfepbekaobaa.Vo Go.Proofs.Ytnknfepbekaobaa.OpAs Go.Proofs.Ytnknfepbekaobaa.PAl
set_option linter.unusedVariables false
theorem own : ownKnob Try.prog.godebug = none := by kernel_rfl
theorem laidOut : laidOutB Try.prog = true := by kernel_rfl
set_option maxRecDepth 100000 in
theorem lifted (P : vireolaw09_TrapAsks.Pure2) (os : Os) (started : os.Started) (H : Type) (enc : TypeId × Value → H) :
    ReturnsInHanded {} Try.checked os 8 .any (Rows.trapAsksSpec.pre6 enc Try.prog Try.f8 Rows.trapAsksRow.domain false) (Rows.trapAsksSpec.post enc Try.prog Try.f8 false true false false) := by
  refine returnsInHanded_of_change (C := Try.checked) own started (by kernel_rfl) Try.func8
    (ChangeSpec.witness6 (enc := enc) (C := Try.checked) false ⟨#[], #[.agg #[.int .i64 0, .slice none 0 0, .int .u64 0], .int .i64 0, .bool false], []⟩ 8 (by kernel_rfl) (by kernel_rfl) (by kernel_rfl) (by kernel_rfl)) ?_
  intro W base args ds gs before hval0 hW hcnd _
  have hval : ∀ (j : Nat) t v, Try.f8.params[j]? = some t → args[j]? = some v → Value.okWide Try.prog W .any base t v := hval0
  have hW' := hW
  obtain ⟨p, q, hA0, hV, rfl, hfz, hnd⟩ := hW
  have hA : DataW.TrodAll enc Try.prog W 0 (fun _ => true) true Try.f8.params.toList args.toList ds p := hA0
  rw [Try.params8] at hA hval
  obtain ⟨v0, vs0, d0, ds0, p0, q0, hargs, rfl, rfl, h0, r0⟩ := trodAll_cons hA
  obtain ⟨v1, vs1, d1, ds1, p1, q1, rfl, rfl, rfl, h1, r1⟩ := trodAll_cons r0
  obtain ⟨v2, vs2, d2, ds2, p2, q2, rfl, rfl, rfl, h2, r2⟩ := trodAll_cons r1
  obtain ⟨rfl, rfl, rfl⟩ := trodAll_nil r2
  obtain rfl : args = #[v0, v1, v2] := by cases args; simp_all
  obtain ⟨rfl, rfl⟩ := trodVars_none hV
  have k0 := h0
  have lt0 : ∀ x ∈ p0, x.block < W.heap.size := by obtain ⟨m, hm⟩ := k0; exact DataW.trod_lt m _ _ _ hm
  obtain ⟨fu0, hf0⟩ := h0
  obtain ⟨b0, hk0, hg0⟩ := opens25 H enc W _ _ _ fu0 _ _ hf0
  obtain ⟨cs0, rfl, hz0⟩ := okWide_struct Try.underlying25 (hval 0 25 v0 rfl rfl)
  obtain ⟨A0_1, c0_1, e0, l0_1_, r0_1_⟩ := k25_open hk0
  obtain rfl : cs0 = #[.int .i64 b0.f0, .slice A0_1 b0.f1.length c0_1, .int .u64 b0.f2] := by apply Array.ext'; exact e0
  have k1 := h1
  have lt1 : ∀ x ∈ p1, x.block < W.heap.size := by obtain ⟨m, hm⟩ := k1; exact DataW.trod_lt m _ _ _ hm
  obtain ⟨fu1, hf1⟩ := h1
  obtain ⟨b1, hk1, hg1⟩ := opens3 H enc W _ _ _ fu1 _ _ hf1
  obtain rfl : v1 = .int .i64 b1 := by
    have hk := hk1
    obtain ⟨z, hz⟩ := okWide_int Try.underlying3 (hval 1 3 v1 rfl rfl)
    have hz' := hz
    first | (subst hz; exact (List.cons.inj hk).1) | (rw [hz'.1] at hk ⊢; exact (List.cons.inj hk).1)
  have k2 := h2
  have lt2 : ∀ x ∈ p2, x.block < W.heap.size := by obtain ⟨m, hm⟩ := k2; exact DataW.trod_lt m _ _ _ hm
  obtain ⟨fu2, hf2⟩ := h2
  obtain ⟨b2, hk2, hg2⟩ := opens4 H enc W _ _ _ fu2 _ _ hf2
  obtain rfl : v2 = .bool b2 := by
    have hk := hk2
    obtain ⟨z, hz⟩ := okWide_bool Try.underlying4 (hval 2 4 v2 rfl rfl)
    have hz' := hz
    first | (subst hz; exact (List.cons.inj hk).1) | (rw [hz'.1] at hk ⊢; exact (List.cons.inj hk).1)
  have hh := P b0 b1 b2 hg0 hg1 hg2
  clear hA0 hval0
  refine (vireolaw09_TrapAsks.calls b0.f0 _ _ b0.f1 b0.f2 b1 b2 true W r0_1_ l0_1_ hh).mono fun e W' ⟨he, bel0⟩ => ?_
  have bel : Below W.heap.size W W' := bel0
  subst he
  exact ⟨_, rfl, _, _, _, [], _, [], hW', trodAll_mk1 (shut_bool Try.underlying4 _), (trodAll_cons_mk (Below.trod laidOut (by kernel_rfl) (of_decide_eq_true (by kernel_rfl)) k0 bel lt0) (trodAll_cons_mk (Below.trod laidOut (by kernel_rfl) (of_decide_eq_true (by kernel_rfl)) k1 bel lt1) (trodAll_cons_mk (Below.trod laidOut (by kernel_rfl) (of_decide_eq_true (by kernel_rfl)) k2 bel lt2) trodAll_mk0))), rfl, bel.frame _, fun h => by cases h⟩
theorem over (P : vireolaw09_TrapAsks.Pure2) : Rows.trapAsksRow.holds Try.pinned (OpenSpec.ofChange Rows.trapAsksSpec) :=
  OpenClaim.holds_of_wide 8 Try.f8 rfl rfl rfl rfl rfl rfl rfl ⟨rfl, rfl, rfl, rfl, rfl⟩ rfl rfl rfl rfl rfl (by kernel_rfl) Try.func8 (by kernel_rfl)
    (of_decide_eq_true (by kernel_rfl)) (by unfold Func.isWrapper; first | (rw [if_pos (by decide +kernel)]; kernel_rfl) | (rw [if_neg (by decide +kernel)]; exact ⟨rfl, rfl⟩))
    (fun os started H enc _ => lifted P os started H enc)
theorem proved : Rows.TrapAsksSaid := over Pure.TrapAsks
#print axioms proved
end Go.Proofs.Ytnknfepbekaobaa.trapAsks
