import Derived.Test.YtlhdildnekllhaaPWyx1
import Derived.Test.YtlhdildnekllhaaVo
import Derived.WalkKit
import Derived.KernelRfl
namespace Go.Proofs.Ytlhdildnekllhaa.OpWy
open Go.RowKit Go.Proofs.Ytlhdildnekllhaa.PWy Go.Proofs.YtlhdildnekllhaaW.PrintWords Go.Proofs.Ytlhdildnekllhaa.Vo Go.Proofs.Ytlhdildnekllhaa.PAl
set_option linter.unusedVariables false
set_option linter.unusedSimpArgs false
def good3 (y : Int) : Prop := (Lit.int .i64 y).wf = true
theorem opens3 : Opens Try.prog 3 (Kd.int .i64) good3 := opens_int Try.underlying3
def good23 (y : Int) : Prop := (Lit.int .u64 y).wf = true
theorem opens23 : Opens Try.prog 23 (Kd.int .u64) good23 := opens_int Try.underlying23
def good92 (y : S92) : Prop := good3 y.f0 ∧ good23 y.f1
theorem opens92 : Opens Try.prog 92 k92 good92 := by
  intro H enc w base spare held fuel cs x h
  obtain ⟨xs, n, rfl, _, hlen, hxl, hf⟩ := DataW.trod_struct Try.underlying92 h
  have hC : Try.prog.cellsOf 92 = 2 := by kernel_rfl
  have hc3 : Try.prog.cellsOf 3 = 1 := by kernel_rfl
  have hc23 : Try.prog.cellsOf 23 = 1 := by kernel_rfl
  rw [hC] at hlen
  obtain ⟨c0, c1, rfl⟩ := len2 hlen
  have hxl2 : xs.length = 2 := hxl
  have h0 : DataW.trod enc Try.prog w base spare held n 3 [c0] = xs[0]? := by
    have q := hf 0 _ rfl
    simpa [hc3] using q
  rw [List.getElem?_eq_getElem (show 0 < xs.length by omega)] at h0
  obtain ⟨y0, k0_, g0⟩ := opens3 H enc w base spare held n [c0] _ h0
  have e0 : [c0] = [.int .i64 y0] := k0_
  obtain rfl : c0 = _ := (List.cons.inj e0).1
  have h1 : DataW.trod enc Try.prog w base spare held n 23 [c1] = xs[1]? := by
    have q := hf 1 _ rfl
    simpa [hc23] using q
  rw [List.getElem?_eq_getElem (show 1 < xs.length by omega)] at h1
  obtain ⟨y1, k1_, g1⟩ := opens23 H enc w base spare held n [c1] _ h1
  have e1 : [c1] = [.int .u64 y1] := k1_
  obtain rfl : c1 = _ := (List.cons.inj e1).1
  exact ⟨⟨y0, y1⟩, k92_mk w ⟨y0, y1⟩ , ⟨g0, g1⟩⟩
def good50 (y : (List S92)) : Prop := (y.length ≤ maxLen ∧ ∀ z ∈ y, good92 z)
theorem opens50 : Opens Try.prog 50 (Kd.slice 92 k92) good50 := opens_slice Try.underlying50 (by kernel_rfl) opens92
/-! #### struct type 52 -/
structure S52 where
  f0 : Int
  f1 : (List S92)
  f2 : Int
def z52 : S52 := ⟨(0 : Int), ([] : List S92), (0 : Int)⟩
def k52 : Kd S52 := Kd.iso (Kd.pair (Kd.int .i64) (Kd.pair (Kd.slice 92 k92) (Kd.int .u64))) (fun x : S52 => (x.f0, x.f1, x.f2))
theorem k52_open {w : World} {x : S52} {cs : List Value} (h : k52.K w x cs) : ∃ A1 c1, cs = [.int .i64 x.f0, .slice A1 x.f1.length c1, .int .u64 x.f2] ∧ x.f1.length ≤ c1 ∧ k92.C w A1 x.f1.length x.f1 := by
  obtain ⟨_, _, rfl, rfl, ⟨_, _, rfl, ⟨A1, c1, rfl, l1, g1⟩, rfl⟩⟩ := h
  exact ⟨A1, c1, rfl, l1, g1⟩
theorem k52_openM {w : World} {base : Nat} {ok : Nat → Prop} {x : S52} {cs : List Value} (h : k52.M w base ok x cs) : ∃ v1, cs = [.int .i64 x.f0, v1, .int .u64 x.f2] ∧ k92.R 92 w base ok v1 x.f1 := by
  obtain ⟨_, _, rfl, rfl, ⟨_, _, rfl, ⟨v1, rfl, g1⟩, rfl⟩⟩ := h
  exact ⟨v1, rfl, g1⟩
theorem k52_mk (w : World) (x : S52) {A1 : Option Addr} {c1 : Nat} (l1 : x.f1.length ≤ c1) (g1 : k92.C w A1 x.f1.length x.f1) : k52.K w x [.int .i64 x.f0, .slice A1 x.f1.length c1, .int .u64 x.f2] := ⟨[.int .i64 x.f0], [.slice A1 x.f1.length c1, .int .u64 x.f2], rfl, rfl, ⟨[.slice A1 x.f1.length c1], [.int .u64 x.f2], rfl, ⟨A1, c1, rfl, l1, g1⟩, rfl⟩⟩
theorem k52_mkM (w : World) (base : Nat) (ok : Nat → Prop) (x : S52) {v1 : Value} (g1 : k92.R 92 w base ok v1 x.f1) : k52.M w base ok x [.int .i64 x.f0, v1, .int .u64 x.f2] := ⟨[.int .i64 x.f0], [v1, .int .u64 x.f2], rfl, rfl, ⟨[v1], [.int .u64 x.f2], rfl, ⟨v1, rfl, g1⟩, rfl⟩⟩
def rd_T52 (xs : List S52) (i : Int) : S52 := xs.getD i.toNat z52
theorem at_T52 {w : World} {A : Option Addr} {n : Nat} {xs : List S52} (h : Kd.C k52 w A n xs) (i : Int) (h0 : 0 ≤ i) (h1 : i < n) : ∃ ad A1 c1, A = some ad ∧ w.cell? (ad.add (i.toNat * 3)) = some (.int .i64 (rd_T52 xs i).f0) ∧ w.cell? ⟨(ad.add (i.toNat * 3)).block, (ad.add (i.toNat * 3)).off + 1, none⟩ = some (.slice A1 (rd_T52 xs i).f1.length c1) ∧ w.cell? ⟨(ad.add (i.toNat * 3)).block, (ad.add (i.toNat * 3)).off + 2, none⟩ = some (.int .u64 (rd_T52 xs i).f2) ∧ (rd_T52 xs i).f1.length ≤ c1 ∧ k92.C w A1 (rd_T52 xs i).f1.length (rd_T52 xs i).f1 := by
  obtain ⟨ad, c, e, _, hK, hc0⟩ := Kd.C_get h z52 i h0 h1
  have hc : ∀ j u, c[j]? = some u → w.cell? (ad.add (i.toNat * 3 + j)) = some u := hc0
  obtain ⟨A1, c1, rfl, l1, g1⟩ := k52_open hK
  exact ⟨ad, A1, c1, e, hc 0 _ rfl, by rw [← add_field _ _ 1 (by omega)]; exact hc 1 _ rfl, by rw [← add_field _ _ 2 (by omega)]; exact hc 2 _ rfl, l1, g1⟩

def good52 (y : S52) : Prop := good3 y.f0 ∧ good50 y.f1 ∧ good23 y.f2
theorem opens52 : Opens Try.prog 52 k52 good52 := by
  intro H enc w base spare held fuel cs x h
  obtain ⟨xs, n, rfl, _, hlen, hxl, hf⟩ := DataW.trod_struct Try.underlying52 h
  have hC : Try.prog.cellsOf 52 = 3 := by kernel_rfl
  have hc3 : Try.prog.cellsOf 3 = 1 := by kernel_rfl
  have hc23 : Try.prog.cellsOf 23 = 1 := by kernel_rfl
  have hc50 : Try.prog.cellsOf 50 = 1 := by kernel_rfl
  rw [hC] at hlen
  obtain ⟨c0, c1, c2, rfl⟩ := len3 hlen
  have hxl2 : xs.length = 3 := hxl
  have h0 : DataW.trod enc Try.prog w base spare held n 3 [c0] = xs[0]? := by
    have q := hf 0 _ rfl
    simpa [hc3] using q
  rw [List.getElem?_eq_getElem (show 0 < xs.length by omega)] at h0
  obtain ⟨y0, k0_, g0⟩ := opens3 H enc w base spare held n [c0] _ h0
  have e0 : [c0] = [.int .i64 y0] := k0_
  obtain rfl : c0 = _ := (List.cons.inj e0).1
  have h1 : DataW.trod enc Try.prog w base spare held n 50 [c1] = xs[1]? := by
    have q := hf 1 _ rfl
    simpa [hc50] using q
  rw [List.getElem?_eq_getElem (show 1 < xs.length by omega)] at h1
  obtain ⟨y1, k1_, g1⟩ := opens50 H enc w base spare held n [c1] _ h1
  obtain ⟨A1, a1, e1, l1, r1⟩ := k1_
  obtain rfl : c1 = _ := (List.cons.inj e1).1
  have h2 : DataW.trod enc Try.prog w base spare held n 23 [c2] = xs[2]? := by
    have q := hf 2 _ rfl
    simpa [hc23] using q
  rw [List.getElem?_eq_getElem (show 2 < xs.length by omega)] at h2
  obtain ⟨y2, k2_, g2⟩ := opens23 H enc w base spare held n [c2] _ h2
  have e2 : [c2] = [.int .u64 y2] := k2_
  obtain rfl : c2 = _ := (List.cons.inj e2).1
  exact ⟨⟨y0, y1, y2⟩, k52_mk w ⟨y0, y1, y2⟩ l1 r1, ⟨g0, g1, g2⟩⟩
def vireolaw10_Sv39Ways.Pure2 : Prop := ∀ (b0 : S52) (b1 : Int) (b2 : Int), good52 b0 → good3 b1 → good23 b2 → vireolaw10_Sv39Ways.f b0.f0 b0.f1 b0.f2 b1 b2 = some true
end Go.Proofs.Ytlhdildnekllhaa.OpWy
