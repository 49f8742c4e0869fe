import Derived.Test.YtidcjbloidbpdaaPArrx2
import Derived.Test.YtidcjbloidbpdaaPArrx3
import Derived.Test.YtidcjbloidbpdaaPArrx5
import Derived.Test.YtidcjbloidbpdaaVo
import Derived.WalkKit
import Derived.KernelRfl
namespace Go.Proofs.Ytidcjbloidbpdaa.OpArr
open Go.RowKit Go.Proofs.Ytidcjbloidbpdaa.PArr Go.Proofs.YtidcjbloidbpdaaW.PrintWords Go.Proofs.Ytidcjbloidbpdaa.Vo
set_option linter.unusedVariables false
set_option linter.unusedSimpArgs false
def good22 (y : Int) : Prop := (Lit.int .u64 y).wf = true
theorem opens22 : Opens Try.prog 22 (Kd.int .u64) good22 := opens_int Try.underlying22
def good3 (y : Int) : Prop := (Lit.int .i64 y).wf = true
theorem opens3 : Opens Try.prog 3 (Kd.int .i64) good3 := opens_int Try.underlying3
/-! #### struct type 34 -/
structure S34 where
  f0 : Int
  f1 : Int
def z34 : S34 := ⟨(0 : Int), (0 : Int)⟩
def k34 : Kd S34 := Kd.iso (Kd.pair (Kd.int .i64) (Kd.int .i64)) (fun x : S34 => (x.f0, x.f1))
theorem k34_open {w : World} {x : S34} {cs : List Value} (h : k34.K w x cs) : cs = [.int .i64 x.f0, .int .i64 x.f1] := by
  obtain ⟨_, _, rfl, rfl, rfl⟩ := h
  exact rfl
theorem k34_openM {w : World} {base : Nat} {ok : Nat → Prop} {x : S34} {cs : List Value} (h : k34.M w base ok x cs) : cs = [.int .i64 x.f0, .int .i64 x.f1] := by
  obtain ⟨_, _, rfl, rfl, rfl⟩ := h
  exact rfl
theorem k34_mk (w : World) (x : S34)  : k34.K w x [.int .i64 x.f0, .int .i64 x.f1] := ⟨[.int .i64 x.f0], [.int .i64 x.f1], rfl, rfl, rfl⟩
theorem k34_mkM (w : World) (base : Nat) (ok : Nat → Prop) (x : S34)  : k34.M w base ok x [.int .i64 x.f0, .int .i64 x.f1] := ⟨[.int .i64 x.f0], [.int .i64 x.f1], rfl, rfl, rfl⟩
def rd_T34 (xs : List S34) (i : Int) : S34 := xs.getD i.toNat z34
theorem at_T34 {w : World} {A : Option Addr} {n : Nat} {xs : List S34} (h : Kd.C k34 w A n xs) (i : Int) (h0 : 0 ≤ i) (h1 : i < n) : ∃ ad , A = some ad ∧ w.cell? (ad.add (i.toNat * 2)) = some (.int .i64 (rd_T34 xs i).f0) ∧ w.cell? ⟨(ad.add (i.toNat * 2)).block, (ad.add (i.toNat * 2)).off + 1, none⟩ = some (.int .i64 (rd_T34 xs i).f1) := by
  obtain ⟨ad, c, e, _, hK, hc0⟩ := Kd.C_get h z34 i h0 h1
  have hc : ∀ j u, c[j]? = some u → w.cell? (ad.add (i.toNat * 2 + j)) = some u := hc0
  obtain rfl := k34_open hK
  exact ⟨ad, e, hc 0 _ rfl, by rw [← add_field _ _ 1 (by omega)]; exact hc 1 _ rfl⟩

def good34 (y : S34) : Prop := good3 y.f0 ∧ good3 y.f1
theorem opens34 : Opens Try.prog 34 k34 good34 := by
  intro H enc w base spare held fuel cs x h
  obtain ⟨xs, n, rfl, _, hlen, hxl, hf⟩ := DataW.trod_array Try.underlying34 h
  have hC : Try.prog.cellsOf 34 = 2 := by kernel_rfl
  have hc3 : Try.prog.cellsOf 3 = 1 := by kernel_rfl
  rw [hC] at hlen
  obtain ⟨c0, c1, rfl⟩ := len2 hlen
  have hxl2 : xs.length = 2 := hxl
  have h0 : DataW.trod enc Try.prog w base spare held n 3 [c0] = xs[0]? := by
    have q := hf 0 (by decide)
    simpa [hc3] using q
  rw [List.getElem?_eq_getElem (show 0 < xs.length by omega)] at h0
  obtain ⟨y0, k0_, g0⟩ := opens3 H enc w base spare held n [c0] _ h0
  have e0 : [c0] = [.int .i64 y0] := k0_
  obtain rfl : c0 = _ := (List.cons.inj e0).1
  have h1 : DataW.trod enc Try.prog w base spare held n 3 [c1] = xs[1]? := by
    have q := hf 1 (by decide)
    simpa [hc3] using q
  rw [List.getElem?_eq_getElem (show 1 < xs.length by omega)] at h1
  obtain ⟨y1, k1_, g1⟩ := opens3 H enc w base spare held n [c1] _ h1
  have e1 : [c1] = [.int .i64 y1] := k1_
  obtain rfl : c1 = _ := (List.cons.inj e1).1
  exact ⟨⟨y0, y1⟩, k34_mk w ⟨y0, y1⟩ , ⟨g0, g1⟩⟩
/-! #### struct type 28 -/
structure S28 where
  f0 : Int
  f1 : Int
def z28 : S28 := ⟨(0 : Int), (0 : Int)⟩
def k28 : Kd S28 := Kd.iso (Kd.pair (Kd.int .u64) (Kd.int .u64)) (fun x : S28 => (x.f0, x.f1))
theorem k28_open {w : World} {x : S28} {cs : List Value} (h : k28.K w x cs) : cs = [.int .u64 x.f0, .int .u64 x.f1] := by
  obtain ⟨_, _, rfl, rfl, rfl⟩ := h
  exact rfl
theorem k28_openM {w : World} {base : Nat} {ok : Nat → Prop} {x : S28} {cs : List Value} (h : k28.M w base ok x cs) : cs = [.int .u64 x.f0, .int .u64 x.f1] := by
  obtain ⟨_, _, rfl, rfl, rfl⟩ := h
  exact rfl
theorem k28_mk (w : World) (x : S28)  : k28.K w x [.int .u64 x.f0, .int .u64 x.f1] := ⟨[.int .u64 x.f0], [.int .u64 x.f1], rfl, rfl, rfl⟩
theorem k28_mkM (w : World) (base : Nat) (ok : Nat → Prop) (x : S28)  : k28.M w base ok x [.int .u64 x.f0, .int .u64 x.f1] := ⟨[.int .u64 x.f0], [.int .u64 x.f1], rfl, rfl, rfl⟩
def rd_T28 (xs : List S28) (i : Int) : S28 := xs.getD i.toNat z28
theorem at_T28 {w : World} {A : Option Addr} {n : Nat} {xs : List S28} (h : Kd.C k28 w A n xs) (i : Int) (h0 : 0 ≤ i) (h1 : i < n) : ∃ ad , A = some ad ∧ w.cell? (ad.add (i.toNat * 2)) = some (.int .u64 (rd_T28 xs i).f0) ∧ w.cell? ⟨(ad.add (i.toNat * 2)).block, (ad.add (i.toNat * 2)).off + 1, none⟩ = some (.int .u64 (rd_T28 xs i).f1) := by
  obtain ⟨ad, c, e, _, hK, hc0⟩ := Kd.C_get h z28 i h0 h1
  have hc : ∀ j u, c[j]? = some u → w.cell? (ad.add (i.toNat * 2 + j)) = some u := hc0
  obtain rfl := k28_open hK
  exact ⟨ad, e, hc 0 _ rfl, by rw [← add_field _ _ 1 (by omega)]; exact hc 1 _ rfl⟩

def good28 (y : S28) : Prop := good22 y.f0 ∧ good22 y.f1
theorem opens28 : Opens Try.prog 28 k28 good28 := by
  intro H enc w base spare held fuel cs x h
  obtain ⟨xs, n, rfl, _, hlen, hxl, hf⟩ := DataW.trod_array Try.underlying28 h
  have hC : Try.prog.cellsOf 28 = 2 := by kernel_rfl
  have hc22 : Try.prog.cellsOf 22 = 1 := by kernel_rfl
  rw [hC] at hlen
  obtain ⟨c0, c1, rfl⟩ := len2 hlen
  have hxl2 : xs.length = 2 := hxl
  have h0 : DataW.trod enc Try.prog w base spare held n 22 [c0] = xs[0]? := by
    have q := hf 0 (by decide)
    simpa [hc22] using q
  rw [List.getElem?_eq_getElem (show 0 < xs.length by omega)] at h0
  obtain ⟨y0, k0_, g0⟩ := opens22 H enc w base spare held n [c0] _ h0
  have e0 : [c0] = [.int .u64 y0] := k0_
  obtain rfl : c0 = _ := (List.cons.inj e0).1
  have h1 : DataW.trod enc Try.prog w base spare held n 22 [c1] = xs[1]? := by
    have q := hf 1 (by decide)
    simpa [hc22] using q
  rw [List.getElem?_eq_getElem (show 1 < xs.length by omega)] at h1
  obtain ⟨y1, k1_, g1⟩ := opens22 H enc w base spare held n [c1] _ h1
  have e1 : [c1] = [.int .u64 y1] := k1_
  obtain rfl : c1 = _ := (List.cons.inj e1).1
  exact ⟨⟨y0, y1⟩, k28_mk w ⟨y0, y1⟩ , ⟨g0, g1⟩⟩
def good42 (y : (List Int)) : Prop := (y.length ≤ maxLen ∧ ∀ z ∈ y, good3 z)
theorem opens42 : Opens Try.prog 42 (Kd.slice 3 (Kd.int .i64)) good42 := opens_slice Try.underlying42 (by kernel_rfl) opens3
def good4 (y : Bool) : Prop := True
theorem opens4 : Opens Try.prog 4 Kd.bool good4 := opens_bool Try.underlying4
def good43 (y : (List Bool)) : Prop := (y.length ≤ maxLen ∧ ∀ z ∈ y, good4 z)
theorem opens43 : Opens Try.prog 43 (Kd.slice 4 Kd.bool) good43 := opens_slice Try.underlying43 (by kernel_rfl) opens4
def vireolaw01_WordPuts.Pure2 : Prop := ∀ (b0 : Int) (b1 : Int) (b2 : S34), good22 b0 → good22 b1 → good34 b2 → ∃ k, vireolaw01_WordPuts.f k b0 b1 b2.f0 b2.f1 = some true
def vireolaw01_WordWithin.Pure2 : Prop := ∀ (b0 : S28) (b1 : S28), good28 b0 → good28 b1 → ∃ k, vireolaw01_WordWithin.f k b0.f0 b0.f1 b1.f0 b1.f1 = some true
def vireolaw01_WordOverlaps.Pure2 : Prop := ∀ (b0 : S28) (b1 : S28), good28 b0 → good28 b1 → ∃ k, vireolaw01_WordOverlaps.f k b0.f0 b0.f1 b1.f0 b1.f1 = some true
def vireolaw01_WordSets.Pure2 : Prop := ∀ (b0 : (List Int)) (b1 : Int) (b2 : (List Bool)), good42 b0 → good22 b1 → good43 b2 → ∃ k, vireolaw01_WordSets.f k b0 b1 b2 = some true
end Go.Proofs.Ytidcjbloidbpdaa.OpArr
