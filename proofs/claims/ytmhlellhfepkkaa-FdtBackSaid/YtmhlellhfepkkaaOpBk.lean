import Derived.Test.YtmhlellhfepkkaaLq
import Derived.Test.YtmhlellhfepkkaaVo
import Derived.WalkKit
import Derived.KernelRfl
namespace Go.Proofs.Ytmhlellhfepkkaa.OpBk
open Go.RowKit Go.Proofs.Ytmhlellhfepkkaa.PAl Go.Proofs.YtmhlellhfepkkaaW.PrintWords Go.Proofs.Ytmhlellhfepkkaa.Vo
set_option linter.unusedVariables false
set_option linter.unusedSimpArgs false
def good3 (y : Int) : Prop := (Lit.int .i64 y).wf = true
theorem opens3 : Opens Try.prog 3 (Kd.int .i64) good3 := opens_int Try.underlying3
def good9 (y : ByteArray) : Prop := y.size ≤ maxLen
theorem opens9 : Opens Try.prog 9 Kd.string good9 := opens_string Try.underlying9
def good5 (y : Int) : Prop := (Lit.int .u8 y).wf = true
theorem opens5 : Opens Try.prog 5 (Kd.int .u8) good5 := opens_int Try.underlying5
def good25 (y : (List Int)) : Prop := (y.length ≤ maxLen ∧ ∀ z ∈ y, good5 z)
theorem opens25 : Opens Try.prog 25 (Kd.slice 5 (Kd.int .u8)) good25 := opens_slice Try.underlying25 (by kernel_rfl) opens5
def good55 (y : S55) : Prop := good9 y.f0 ∧ good25 y.f1
theorem opens55 : Opens Try.prog 55 k55 good55 := by
  intro H enc w base spare held fuel cs x h
  obtain ⟨xs, n, rfl, _, hlen, hxl, hf⟩ := DataW.trod_struct Try.underlying55 h
  have hC : Try.prog.cellsOf 55 = 2 := by kernel_rfl
  have hc9 : Try.prog.cellsOf 9 = 1 := by kernel_rfl
  have hc25 : Try.prog.cellsOf 25 = 1 := by kernel_rfl
  rw [hC] at hlen
  obtain ⟨c0, c1, rfl⟩ := len2 hlen
  have hxl2 : xs.length = 2 := hxl
  have h0 : DataW.trod enc Try.prog w base spare held n 9 [c0] = xs[0]? := by
    have q := hf 0 _ rfl
    simpa [hc9] using q
  rw [List.getElem?_eq_getElem (show 0 < xs.length by omega)] at h0
  obtain ⟨y0, k0_, g0⟩ := opens9 H enc w base spare held n [c0] _ h0
  have e0 : [c0] = [.string y0] := k0_
  obtain rfl : c0 = _ := (List.cons.inj e0).1
  have h1 : DataW.trod enc Try.prog w base spare held n 25 [c1] = xs[1]? := by
    have q := hf 1 _ rfl
    simpa [hc25] using q
  rw [List.getElem?_eq_getElem (show 1 < xs.length by omega)] at h1
  obtain ⟨y1, k1_, g1⟩ := opens25 H enc w base spare held n [c1] _ h1
  obtain ⟨A1, a1, e1, l1, r1⟩ := k1_
  obtain rfl : c1 = _ := (List.cons.inj e1).1
  exact ⟨⟨y0, y1⟩, k55_mk w ⟨y0, y1⟩ l1 r1, ⟨g0, g1⟩⟩
def good48 (y : (List S55)) : Prop := (y.length ≤ maxLen ∧ ∀ z ∈ y, good55 z)
theorem opens48 : Opens Try.prog 48 (Kd.slice 55 k55) good48 := opens_slice Try.underlying48 (by kernel_rfl) opens55
def good50 (y : S50) : Prop := good3 y.f0 ∧ good9 y.f1 ∧ good48 y.f2
theorem opens50 : Opens Try.prog 50 k50 good50 := by
  intro H enc w base spare held fuel cs x h
  obtain ⟨xs, n, rfl, _, hlen, hxl, hf⟩ := DataW.trod_struct Try.underlying50 h
  have hC : Try.prog.cellsOf 50 = 3 := by kernel_rfl
  have hc3 : Try.prog.cellsOf 3 = 1 := by kernel_rfl
  have hc9 : Try.prog.cellsOf 9 = 1 := by kernel_rfl
  have hc48 : Try.prog.cellsOf 48 = 1 := by kernel_rfl
  rw [hC] at hlen
  obtain ⟨c0, c1, c2, rfl⟩ := len3 hlen
  have hxl2 : xs.length = 3 := hxl
  have h0 : DataW.trod enc Try.prog w base spare held n 3 [c0] = xs[0]? := by
    have q := hf 0 _ rfl
    simpa [hc3] using q
  rw [List.getElem?_eq_getElem (show 0 < xs.length by omega)] at h0
  obtain ⟨y0, k0_, g0⟩ := opens3 H enc w base spare held n [c0] _ h0
  have e0 : [c0] = [.int .i64 y0] := k0_
  obtain rfl : c0 = _ := (List.cons.inj e0).1
  have h1 : DataW.trod enc Try.prog w base spare held n 9 [c1] = xs[1]? := by
    have q := hf 1 _ rfl
    simpa [hc9] using q
  rw [List.getElem?_eq_getElem (show 1 < xs.length by omega)] at h1
  obtain ⟨y1, k1_, g1⟩ := opens9 H enc w base spare held n [c1] _ h1
  have e1 : [c1] = [.string y1] := k1_
  obtain rfl : c1 = _ := (List.cons.inj e1).1
  have h2 : DataW.trod enc Try.prog w base spare held n 48 [c2] = xs[2]? := by
    have q := hf 2 _ rfl
    simpa [hc48] using q
  rw [List.getElem?_eq_getElem (show 2 < xs.length by omega)] at h2
  obtain ⟨y2, k2_, g2⟩ := opens48 H enc w base spare held n [c2] _ h2
  obtain ⟨A2, a2, e2, l2, r2⟩ := k2_
  obtain rfl : c2 = _ := (List.cons.inj e2).1
  exact ⟨⟨y0, y1, y2⟩, k50_mk w ⟨y0, y1, y2⟩ l2 r2, ⟨g0, g1, g2⟩⟩
def good22 (y : (List S50)) : Prop := (y.length ≤ maxLen ∧ ∀ z ∈ y, good50 z)
theorem opens22 : Opens Try.prog 22 (Kd.slice 50 k50) good22 := opens_slice Try.underlying22 (by kernel_rfl) opens50
def vireolaw26_FdtBack.Pure2 : Prop := ∀ (b0 : (List S50)), good22 b0 → ∃ k, vireolaw26_FdtBack.f k b0 = some true
end Go.Proofs.Ytmhlellhfepkkaa.OpBk
