import Derived.Test.YtpodgoceheoogaaPFix6
import Derived.Test.YtpodgoceheoogaaPFix7
import Derived.Test.YtpodgoceheoogaaVo
import Derived.WalkKit
import Derived.KernelRfl
namespace Go.Proofs.Ytpodgoceheoogaa.OpFi
open Go.RowKit Go.Proofs.Ytpodgoceheoogaa.PFi Go.Proofs.YtpodgoceheoogaaW.PrintWords Go.Proofs.Ytpodgoceheoogaa.Vo
set_option linter.unusedVariables false
set_option linter.unusedSimpArgs false
def good4 (y : Bool) : Prop := True
theorem opens4 : Opens Try.prog 4 Kd.bool good4 := opens_bool Try.underlying4
def good22 (y : Int) : Prop := (Lit.int .u64 y).wf = true
theorem opens22 : Opens Try.prog 22 (Kd.int .u64) good22 := opens_int Try.underlying22
/-! #### struct type 33 -/
structure S33 where
  f0 : Int
  f1 : Int
def z33 : S33 := ⟨(0 : Int), (0 : Int)⟩
def k33 : Kd S33 := Kd.iso (Kd.pair (Kd.int .u64) (Kd.int .u64)) (fun x : S33 => (x.f0, x.f1))
theorem k33_open {w : World} {x : S33} {cs : List Value} (h : k33.K w x cs) : cs = [.int .u64 x.f0, .int .u64 x.f1] := by
  obtain ⟨_, _, rfl, rfl, rfl⟩ := h
  exact rfl
theorem k33_openM {w : World} {base : Nat} {ok : Nat → Prop} {x : S33} {cs : List Value} (h : k33.M w base ok x cs) : cs = [.int .u64 x.f0, .int .u64 x.f1] := by
  obtain ⟨_, _, rfl, rfl, rfl⟩ := h
  exact rfl
theorem k33_mk (w : World) (x : S33)  : k33.K w x [.int .u64 x.f0, .int .u64 x.f1] := ⟨[.int .u64 x.f0], [.int .u64 x.f1], rfl, rfl, rfl⟩
theorem k33_mkM (w : World) (base : Nat) (ok : Nat → Prop) (x : S33)  : k33.M w base ok x [.int .u64 x.f0, .int .u64 x.f1] := ⟨[.int .u64 x.f0], [.int .u64 x.f1], rfl, rfl, rfl⟩
def rd_T33 (xs : List S33) (i : Int) : S33 := xs.getD i.toNat z33
theorem at_T33 {w : World} {A : Option Addr} {n : Nat} {xs : List S33} (h : Kd.C k33 w A n xs) (i : Int) (h0 : 0 ≤ i) (h1 : i < n) : ∃ ad , A = some ad ∧ w.cell? (ad.add (i.toNat * 2)) = some (.int .u64 (rd_T33 xs i).f0) ∧ w.cell? ⟨(ad.add (i.toNat * 2)).block, (ad.add (i.toNat * 2)).off + 1, none⟩ = some (.int .u64 (rd_T33 xs i).f1) := by
  obtain ⟨ad, c, e, _, hK, hc0⟩ := Kd.C_get h z33 i h0 h1
  have hc : ∀ j u, c[j]? = some u → w.cell? (ad.add (i.toNat * 2 + j)) = some u := hc0
  obtain rfl := k33_open hK
  exact ⟨ad, e, hc 0 _ rfl, by rw [← add_field _ _ 1 (by omega)]; exact hc 1 _ rfl⟩

def good33 (y : S33) : Prop := good22 y.f0 ∧ good22 y.f1
theorem opens33 : Opens Try.prog 33 k33 good33 := by
  intro H enc w base spare held fuel cs x h
  obtain ⟨xs, n, rfl, _, hlen, hxl, hf⟩ := DataW.trod_array Try.underlying33 h
  have hC : Try.prog.cellsOf 33 = 2 := by kernel_rfl
  have hc22 : Try.prog.cellsOf 22 = 1 := by kernel_rfl
  rw [hC] at hlen
  obtain ⟨c0, c1, rfl⟩ := len2 hlen
  have hxl2 : xs.length = 2 := hxl
  have h0 : DataW.trod enc Try.prog w base spare held n 22 [c0] = xs[0]? := by
    have q := hf 0 (by decide)
    simpa [hc22] using q
  rw [List.getElem?_eq_getElem (show 0 < xs.length by omega)] at h0
  obtain ⟨y0, k0_, g0⟩ := opens22 H enc w base spare held n [c0] _ h0
  have e0 : [c0] = [.int .u64 y0] := k0_
  obtain rfl : c0 = _ := (List.cons.inj e0).1
  have h1 : DataW.trod enc Try.prog w base spare held n 22 [c1] = xs[1]? := by
    have q := hf 1 (by decide)
    simpa [hc22] using q
  rw [List.getElem?_eq_getElem (show 1 < xs.length by omega)] at h1
  obtain ⟨y1, k1_, g1⟩ := opens22 H enc w base spare held n [c1] _ h1
  have e1 : [c1] = [.int .u64 y1] := k1_
  obtain rfl : c1 = _ := (List.cons.inj e1).1
  exact ⟨⟨y0, y1⟩, k33_mk w ⟨y0, y1⟩ , ⟨g0, g1⟩⟩
def good3 (y : Int) : Prop := (Lit.int .i64 y).wf = true
theorem opens3 : Opens Try.prog 3 (Kd.int .i64) good3 := opens_int Try.underlying3
def good35 (y : S35) : Prop := good3 y.f0 ∧ good22 y.f1 ∧ good3 y.f2 ∧ good22 y.f3
theorem opens35 : Opens Try.prog 35 k35 good35 := by
  intro H enc w base spare held fuel cs x h
  obtain ⟨xs, n, rfl, _, hlen, hxl, hf⟩ := DataW.trod_struct Try.underlying35 h
  have hC : Try.prog.cellsOf 35 = 4 := by kernel_rfl
  have hc3 : Try.prog.cellsOf 3 = 1 := by kernel_rfl
  have hc22 : Try.prog.cellsOf 22 = 1 := by kernel_rfl
  rw [hC] at hlen
  obtain ⟨c0, c1, c2, c3, rfl⟩ := len4 hlen
  have hxl2 : xs.length = 4 := hxl
  have h0 : DataW.trod enc Try.prog w base spare held n 3 [c0] = xs[0]? := by
    have q := hf 0 _ rfl
    simpa [hc3] using q
  rw [List.getElem?_eq_getElem (show 0 < xs.length by omega)] at h0
  obtain ⟨y0, k0_, g0⟩ := opens3 H enc w base spare held n [c0] _ h0
  have e0 : [c0] = [.int .i64 y0] := k0_
  obtain rfl : c0 = _ := (List.cons.inj e0).1
  have h1 : DataW.trod enc Try.prog w base spare held n 22 [c1] = xs[1]? := by
    have q := hf 1 _ rfl
    simpa [hc22] using q
  rw [List.getElem?_eq_getElem (show 1 < xs.length by omega)] at h1
  obtain ⟨y1, k1_, g1⟩ := opens22 H enc w base spare held n [c1] _ h1
  have e1 : [c1] = [.int .u64 y1] := k1_
  obtain rfl : c1 = _ := (List.cons.inj e1).1
  have h2 : DataW.trod enc Try.prog w base spare held n 3 [c2] = xs[2]? := by
    have q := hf 2 _ rfl
    simpa [hc3] using q
  rw [List.getElem?_eq_getElem (show 2 < xs.length by omega)] at h2
  obtain ⟨y2, k2_, g2⟩ := opens3 H enc w base spare held n [c2] _ h2
  have e2 : [c2] = [.int .i64 y2] := k2_
  obtain rfl : c2 = _ := (List.cons.inj e2).1
  have h3 : DataW.trod enc Try.prog w base spare held n 22 [c3] = xs[3]? := by
    have q := hf 3 _ rfl
    simpa [hc22] using q
  rw [List.getElem?_eq_getElem (show 3 < xs.length by omega)] at h3
  obtain ⟨y3, k3_, g3⟩ := opens22 H enc w base spare held n [c3] _ h3
  have e3 : [c3] = [.int .u64 y3] := k3_
  obtain rfl : c3 = _ := (List.cons.inj e3).1
  exact ⟨⟨y0, y1, y2, y3⟩, k35_mk w ⟨y0, y1, y2, y3⟩ , ⟨g0, g1, g2, g3⟩⟩
def good45 (y : (List S35)) : Prop := (y.length ≤ maxLen ∧ ∀ z ∈ y, good35 z)
theorem opens45 : Opens Try.prog 45 (Kd.slice 35 k35) good45 := opens_slice Try.underlying45 (by kernel_rfl) opens35
def vireolaw11_ClintAsks.Pure2 : Prop := ∀ (b0 : Bool) (b1 : S33) (b2 : S35), good4 b0 → good33 b1 → good35 b2 → ∃ k, vireolaw11_ClintAsks.f k b0 b1.f0 b1.f1 b2.f0 b2.f1 b2.f2 b2.f3 = some true
def vireolaw11_ClintPlays.Pure2 : Prop := ∀ (b0 : (List S35)), good45 b0 → ∃ k, vireolaw11_ClintPlays.f k b0 = some true
end Go.Proofs.Ytpodgoceheoogaa.OpFi
