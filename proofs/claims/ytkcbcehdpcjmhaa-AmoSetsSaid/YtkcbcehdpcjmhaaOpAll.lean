import Derived.Test.YtkcbcehdpcjmhaaPAllx9
import Derived.Test.YtkcbcehdpcjmhaaVo
import Derived.WalkKit
import Derived.KernelRfl
namespace Go.Proofs.Ytkcbcehdpcjmhaa.OpAll
open Go.RowKit Go.Proofs.Ytkcbcehdpcjmhaa.PAll Go.Proofs.YtkcbcehdpcjmhaaW.PrintWords Go.Proofs.Ytkcbcehdpcjmhaa.Vo
set_option linter.unusedVariables false
set_option linter.unusedSimpArgs false
def good22 (y : Int) : Prop := (Lit.int .u64 y).wf = true
theorem opens22 : Opens Try.prog 22 (Kd.int .u64) good22 := opens_int Try.underlying22
def good3 (y : Int) : Prop := (Lit.int .i64 y).wf = true
theorem opens3 : Opens Try.prog 3 (Kd.int .i64) good3 := opens_int Try.underlying3
def good38 (y : S38) : Prop := good22 y.f0 ∧ good22 y.f1
theorem opens38 : Opens Try.prog 38 k38 good38 := by
  intro H enc w base spare held fuel cs x h
  obtain ⟨xs, n, rfl, _, hlen, hxl, hf⟩ := DataW.trod_struct Try.underlying38 h
  have hC : Try.prog.cellsOf 38 = 2 := by kernel_rfl
  have hc22 : Try.prog.cellsOf 22 = 1 := by kernel_rfl
  rw [hC] at hlen
  obtain ⟨c0, c1, rfl⟩ := len2 hlen
  have hxl2 : xs.length = 2 := hxl
  have h0 : DataW.trod enc Try.prog w base spare held n 22 [c0] = xs[0]? := by
    have q := hf 0 _ rfl
    simpa [hc22] using q
  rw [List.getElem?_eq_getElem (show 0 < xs.length by omega)] at h0
  obtain ⟨y0, k0_, g0⟩ := opens22 H enc w base spare held n [c0] _ h0
  have e0 : [c0] = [.int .u64 y0] := k0_
  obtain rfl : c0 = _ := (List.cons.inj e0).1
  have h1 : DataW.trod enc Try.prog w base spare held n 22 [c1] = xs[1]? := by
    have q := hf 1 _ rfl
    simpa [hc22] using q
  rw [List.getElem?_eq_getElem (show 1 < xs.length by omega)] at h1
  obtain ⟨y1, k1_, g1⟩ := opens22 H enc w base spare held n [c1] _ h1
  have e1 : [c1] = [.int .u64 y1] := k1_
  obtain rfl : c1 = _ := (List.cons.inj e1).1
  exact ⟨⟨y0, y1⟩, k38_mk w ⟨y0, y1⟩ , ⟨g0, g1⟩⟩
def good32 (y : (List S38)) : Prop := (y.length ≤ maxLen ∧ ∀ z ∈ y, good38 z)
theorem opens32 : Opens Try.prog 32 (Kd.slice 38 k38) good32 := opens_slice Try.underlying32 (by kernel_rfl) opens38
def vireolaw07_AmoSets.Pure2 : Prop := ∀ (b0 : Int) (b1 : Int) (b2 : (List S38)), good22 b0 → good3 b1 → good32 b2 → ∃ k, vireolaw07_AmoSets.f k b0 b1 b2 = some true
end Go.Proofs.Ytkcbcehdpcjmhaa.OpAll
