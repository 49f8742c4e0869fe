import Derived.Test.YtlhdildnekllhaaPKex1
import Derived.Test.YtlhdildnekllhaaVo
import Derived.WalkKit
import Derived.KernelRfl
namespace Go.Proofs.Ytlhdildnekllhaa.OpKe
open Go.RowKit Go.Proofs.Ytlhdildnekllhaa.PKe Go.Proofs.YtlhdildnekllhaaW.PrintWords Go.Proofs.Ytlhdildnekllhaa.Vo Go.Proofs.Ytlhdildnekllhaa.PAl
set_option linter.unusedVariables false
set_option linter.unusedSimpArgs false
def good23 (y : Int) : Prop := (Lit.int .u64 y).wf = true
theorem opens23 : Opens Try.prog 23 (Kd.int .u64) good23 := opens_int Try.underlying23
def good72 (y : S72) : Prop := good23 y.f0 ∧ good23 y.f1
theorem opens72 : Opens Try.prog 72 k72 good72 := by
  intro H enc w base spare held fuel cs x h
  obtain ⟨xs, n, rfl, _, hlen, hxl, hf⟩ := DataW.trod_struct Try.underlying72 h
  have hC : Try.prog.cellsOf 72 = 2 := by kernel_rfl
  have hc23 : Try.prog.cellsOf 23 = 1 := by kernel_rfl
  rw [hC] at hlen
  obtain ⟨c0, c1, rfl⟩ := len2 hlen
  have hxl2 : xs.length = 2 := hxl
  have h0 : DataW.trod enc Try.prog w base spare held n 23 [c0] = xs[0]? := by
    have q := hf 0 _ rfl
    simpa [hc23] using q
  rw [List.getElem?_eq_getElem (show 0 < xs.length by omega)] at h0
  obtain ⟨y0, k0_, g0⟩ := opens23 H enc w base spare held n [c0] _ h0
  have e0 : [c0] = [.int .u64 y0] := k0_
  obtain rfl : c0 = _ := (List.cons.inj e0).1
  have h1 : DataW.trod enc Try.prog w base spare held n 23 [c1] = xs[1]? := by
    have q := hf 1 _ rfl
    simpa [hc23] using q
  rw [List.getElem?_eq_getElem (show 1 < xs.length by omega)] at h1
  obtain ⟨y1, k1_, g1⟩ := opens23 H enc w base spare held n [c1] _ h1
  have e1 : [c1] = [.int .u64 y1] := k1_
  obtain rfl : c1 = _ := (List.cons.inj e1).1
  exact ⟨⟨y0, y1⟩, k72_mk w ⟨y0, y1⟩ , ⟨g0, g1⟩⟩
def good22 (y : (List S72)) : Prop := (y.length ≤ maxLen ∧ ∀ z ∈ y, good72 z)
theorem opens22 : Opens Try.prog 22 (Kd.slice 72 k72) good22 := opens_slice Try.underlying22 (by kernel_rfl) opens72
def good3 (y : Int) : Prop := (Lit.int .i64 y).wf = true
theorem opens3 : Opens Try.prog 3 (Kd.int .i64) good3 := opens_int Try.underlying3
def good4 (y : Bool) : Prop := True
theorem opens4 : Opens Try.prog 4 Kd.bool good4 := opens_bool Try.underlying4
/-! #### struct type 25 -/
structure S25 where
  f0 : Int
  f1 : Int
  f2 : Int
  f3 : Bool
  f4 : Bool
def z25 : S25 := ⟨(0 : Int), (0 : Int), (0 : Int), false, false⟩
def k25 : Kd S25 := Kd.iso (Kd.pair (Kd.int .u64) (Kd.pair (Kd.int .i64) (Kd.pair (Kd.int .i64) (Kd.pair Kd.bool Kd.bool)))) (fun x : S25 => (x.f0, x.f1, x.f2, x.f3, x.f4))
theorem k25_open {w : World} {x : S25} {cs : List Value} (h : k25.K w x cs) : cs = [.int .u64 x.f0, .int .i64 x.f1, .int .i64 x.f2, .bool x.f3, .bool x.f4] := by
  obtain ⟨_, _, rfl, rfl, ⟨_, _, rfl, rfl, ⟨_, _, rfl, rfl, ⟨_, _, rfl, rfl, rfl⟩⟩⟩⟩ := h
  exact rfl
theorem k25_openM {w : World} {base : Nat} {ok : Nat → Prop} {x : S25} {cs : List Value} (h : k25.M w base ok x cs) : cs = [.int .u64 x.f0, .int .i64 x.f1, .int .i64 x.f2, .bool x.f3, .bool x.f4] := by
  obtain ⟨_, _, rfl, rfl, ⟨_, _, rfl, rfl, ⟨_, _, rfl, rfl, ⟨_, _, rfl, rfl, rfl⟩⟩⟩⟩ := h
  exact rfl
theorem k25_mk (w : World) (x : S25)  : k25.K w x [.int .u64 x.f0, .int .i64 x.f1, .int .i64 x.f2, .bool x.f3, .bool x.f4] := ⟨[.int .u64 x.f0], [.int .i64 x.f1, .int .i64 x.f2, .bool x.f3, .bool x.f4], rfl, rfl, ⟨[.int .i64 x.f1], [.int .i64 x.f2, .bool x.f3, .bool x.f4], rfl, rfl, ⟨[.int .i64 x.f2], [.bool x.f3, .bool x.f4], rfl, rfl, ⟨[.bool x.f3], [.bool x.f4], rfl, rfl, rfl⟩⟩⟩⟩
theorem k25_mkM (w : World) (base : Nat) (ok : Nat → Prop) (x : S25)  : k25.M w base ok x [.int .u64 x.f0, .int .i64 x.f1, .int .i64 x.f2, .bool x.f3, .bool x.f4] := ⟨[.int .u64 x.f0], [.int .i64 x.f1, .int .i64 x.f2, .bool x.f3, .bool x.f4], rfl, rfl, ⟨[.int .i64 x.f1], [.int .i64 x.f2, .bool x.f3, .bool x.f4], rfl, rfl, ⟨[.int .i64 x.f2], [.bool x.f3, .bool x.f4], rfl, rfl, ⟨[.bool x.f3], [.bool x.f4], rfl, rfl, rfl⟩⟩⟩⟩
def rd_T25 (xs : List S25) (i : Int) : S25 := xs.getD i.toNat z25
theorem at_T25 {w : World} {A : Option Addr} {n : Nat} {xs : List S25} (h : Kd.C k25 w A n xs) (i : Int) (h0 : 0 ≤ i) (h1 : i < n) : ∃ ad , A = some ad ∧ w.cell? (ad.add (i.toNat * 5)) = some (.int .u64 (rd_T25 xs i).f0) ∧ w.cell? ⟨(ad.add (i.toNat * 5)).block, (ad.add (i.toNat * 5)).off + 1, none⟩ = some (.int .i64 (rd_T25 xs i).f1) ∧ w.cell? ⟨(ad.add (i.toNat * 5)).block, (ad.add (i.toNat * 5)).off + 2, none⟩ = some (.int .i64 (rd_T25 xs i).f2) ∧ w.cell? ⟨(ad.add (i.toNat * 5)).block, (ad.add (i.toNat * 5)).off + 3, none⟩ = some (.bool (rd_T25 xs i).f3) ∧ w.cell? ⟨(ad.add (i.toNat * 5)).block, (ad.add (i.toNat * 5)).off + 4, none⟩ = some (.bool (rd_T25 xs i).f4) := by
  obtain ⟨ad, c, e, _, hK, hc0⟩ := Kd.C_get h z25 i h0 h1
  have hc : ∀ j u, c[j]? = some u → w.cell? (ad.add (i.toNat * 5 + j)) = some u := hc0
  obtain rfl := k25_open hK
  exact ⟨ad, e, hc 0 _ rfl, by rw [← add_field _ _ 1 (by omega)]; exact hc 1 _ rfl, by rw [← add_field _ _ 2 (by omega)]; exact hc 2 _ rfl, by rw [← add_field _ _ 3 (by omega)]; exact hc 3 _ rfl, by rw [← add_field _ _ 4 (by omega)]; exact hc 4 _ rfl⟩

def good25 (y : S25) : Prop := good23 y.f0 ∧ good3 y.f1 ∧ good3 y.f2 ∧ good4 y.f3 ∧ good4 y.f4
theorem opens25 : Opens Try.prog 25 k25 good25 := by
  intro H enc w base spare held fuel cs x h
  obtain ⟨xs, n, rfl, _, hlen, hxl, hf⟩ := DataW.trod_struct Try.underlying25 h
  have hC : Try.prog.cellsOf 25 = 5 := by kernel_rfl
  have hc3 : Try.prog.cellsOf 3 = 1 := by kernel_rfl
  have hc4 : Try.prog.cellsOf 4 = 1 := by kernel_rfl
  have hc23 : Try.prog.cellsOf 23 = 1 := by kernel_rfl
  rw [hC] at hlen
  obtain ⟨c0, c1, c2, c3, c4, rfl⟩ := len5 hlen
  have hxl2 : xs.length = 5 := hxl
  have h0 : DataW.trod enc Try.prog w base spare held n 23 [c0] = xs[0]? := by
    have q := hf 0 _ rfl
    simpa [hc23] using q
  rw [List.getElem?_eq_getElem (show 0 < xs.length by omega)] at h0
  obtain ⟨y0, k0_, g0⟩ := opens23 H enc w base spare held n [c0] _ h0
  have e0 : [c0] = [.int .u64 y0] := k0_
  obtain rfl : c0 = _ := (List.cons.inj e0).1
  have h1 : DataW.trod enc Try.prog w base spare held n 3 [c1] = xs[1]? := by
    have q := hf 1 _ rfl
    simpa [hc3] using q
  rw [List.getElem?_eq_getElem (show 1 < xs.length by omega)] at h1
  obtain ⟨y1, k1_, g1⟩ := opens3 H enc w base spare held n [c1] _ h1
  have e1 : [c1] = [.int .i64 y1] := k1_
  obtain rfl : c1 = _ := (List.cons.inj e1).1
  have h2 : DataW.trod enc Try.prog w base spare held n 3 [c2] = xs[2]? := by
    have q := hf 2 _ rfl
    simpa [hc3] using q
  rw [List.getElem?_eq_getElem (show 2 < xs.length by omega)] at h2
  obtain ⟨y2, k2_, g2⟩ := opens3 H enc w base spare held n [c2] _ h2
  have e2 : [c2] = [.int .i64 y2] := k2_
  obtain rfl : c2 = _ := (List.cons.inj e2).1
  have h3 : DataW.trod enc Try.prog w base spare held n 4 [c3] = xs[3]? := by
    have q := hf 3 _ rfl
    simpa [hc4] using q
  rw [List.getElem?_eq_getElem (show 3 < xs.length by omega)] at h3
  obtain ⟨y3, k3_, g3⟩ := opens4 H enc w base spare held n [c3] _ h3
  have e3 : [c3] = [.bool y3] := k3_
  obtain rfl : c3 = _ := (List.cons.inj e3).1
  have h4 : DataW.trod enc Try.prog w base spare held n 4 [c4] = xs[4]? := by
    have q := hf 4 _ rfl
    simpa [hc4] using q
  rw [List.getElem?_eq_getElem (show 4 < xs.length by omega)] at h4
  obtain ⟨y4, k4_, g4⟩ := opens4 H enc w base spare held n [c4] _ h4
  have e4 : [c4] = [.bool y4] := k4_
  obtain rfl : c4 = _ := (List.cons.inj e4).1
  exact ⟨⟨y0, y1, y2, y3, y4⟩, k25_mk w ⟨y0, y1, y2, y3, y4⟩ , ⟨g0, g1, g2, g3, g4⟩⟩
def vireolaw10_Sv39Keeps.Pure2 : Prop := ∀ (b0 : (List S72)) (b1 : S25) (b2 : Int), good22 b0 → good25 b1 → good23 b2 → vireolaw10_Sv39Keeps.f b0 b1.f0 b1.f1 b1.f2 b1.f3 b1.f4 b2 = some true
end Go.Proofs.Ytlhdildnekllhaa.OpKe
