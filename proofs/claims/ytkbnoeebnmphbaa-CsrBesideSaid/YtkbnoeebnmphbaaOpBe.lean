import Derived.Test.YtkbnoeebnmphbaaPBex1
import Derived.Test.YtkbnoeebnmphbaaVo
import Derived.WalkKit
import Derived.KernelRfl
namespace Go.Proofs.Ytkbnoeebnmphbaa.OpBe
open Go.RowKit Go.Proofs.Ytkbnoeebnmphbaa.PBe Go.Proofs.YtkbnoeebnmphbaaW.PrintWords Go.Proofs.Ytkbnoeebnmphbaa.Vo Go.Proofs.Ytkbnoeebnmphbaa.PAl
set_option linter.unusedVariables false
set_option linter.unusedSimpArgs false
def good3 (y : Int) : Prop := (Lit.int .i64 y).wf = true
theorem opens3 : Opens Try.prog 3 (Kd.int .i64) good3 := opens_int Try.underlying3
def good26 (y : Int) : Prop := (Lit.int .u64 y).wf = true
theorem opens26 : Opens Try.prog 26 (Kd.int .u64) good26 := opens_int Try.underlying26
def good62 (y : S62) : Prop := good3 y.f0 ∧ good26 y.f1
theorem opens62 : Opens Try.prog 62 k62 good62 := by
  intro H enc w base spare held fuel cs x h
  obtain ⟨xs, n, rfl, _, hlen, hxl, hf⟩ := DataW.trod_struct Try.underlying62 h
  have hC : Try.prog.cellsOf 62 = 2 := by kernel_rfl
  have hc3 : Try.prog.cellsOf 3 = 1 := by kernel_rfl
  have hc26 : Try.prog.cellsOf 26 = 1 := by kernel_rfl
  rw [hC] at hlen
  obtain ⟨c0, c1, rfl⟩ := len2 hlen
  have hxl2 : xs.length = 2 := hxl
  have h0 : DataW.trod enc Try.prog w base spare held n 3 [c0] = xs[0]? := by
    have q := hf 0 _ rfl
    simpa [hc3] using q
  rw [List.getElem?_eq_getElem (show 0 < xs.length by omega)] at h0
  obtain ⟨y0, k0_, g0⟩ := opens3 H enc w base spare held n [c0] _ h0
  have e0 : [c0] = [.int .i64 y0] := k0_
  obtain rfl : c0 = _ := (List.cons.inj e0).1
  have h1 : DataW.trod enc Try.prog w base spare held n 26 [c1] = xs[1]? := by
    have q := hf 1 _ rfl
    simpa [hc26] using q
  rw [List.getElem?_eq_getElem (show 1 < xs.length by omega)] at h1
  obtain ⟨y1, k1_, g1⟩ := opens26 H enc w base spare held n [c1] _ h1
  have e1 : [c1] = [.int .u64 y1] := k1_
  obtain rfl : c1 = _ := (List.cons.inj e1).1
  exact ⟨⟨y0, y1⟩, k62_mk w ⟨y0, y1⟩ , ⟨g0, g1⟩⟩
def good30 (y : (List S62)) : Prop := (y.length ≤ maxLen ∧ ∀ z ∈ y, good62 z)
theorem opens30 : Opens Try.prog 30 (Kd.slice 62 k62) good30 := opens_slice Try.underlying30 (by kernel_rfl) opens62
/-! #### struct type 32 -/
structure S32 where
  f0 : Int
  f1 : (List S62)
  f2 : Int
def z32 : S32 := ⟨(0 : Int), ([] : List S62), (0 : Int)⟩
def k32 : Kd S32 := Kd.iso (Kd.pair (Kd.int .i64) (Kd.pair (Kd.slice 62 k62) (Kd.int .u64))) (fun x : S32 => (x.f0, x.f1, x.f2))
theorem k32_open {w : World} {x : S32} {cs : List Value} (h : k32.K w x cs) : ∃ A1 c1, cs = [.int .i64 x.f0, .slice A1 x.f1.length c1, .int .u64 x.f2] ∧ x.f1.length ≤ c1 ∧ k62.C w A1 x.f1.length x.f1 := by
  obtain ⟨_, _, rfl, rfl, ⟨_, _, rfl, ⟨A1, c1, rfl, l1, g1⟩, rfl⟩⟩ := h
  exact ⟨A1, c1, rfl, l1, g1⟩
theorem k32_openM {w : World} {base : Nat} {ok : Nat → Prop} {x : S32} {cs : List Value} (h : k32.M w base ok x cs) : ∃ v1, cs = [.int .i64 x.f0, v1, .int .u64 x.f2] ∧ k62.R 62 w base ok v1 x.f1 := by
  obtain ⟨_, _, rfl, rfl, ⟨_, _, rfl, ⟨v1, rfl, g1⟩, rfl⟩⟩ := h
  exact ⟨v1, rfl, g1⟩
theorem k32_mk (w : World) (x : S32) {A1 : Option Addr} {c1 : Nat} (l1 : x.f1.length ≤ c1) (g1 : k62.C w A1 x.f1.length x.f1) : k32.K w x [.int .i64 x.f0, .slice A1 x.f1.length c1, .int .u64 x.f2] := ⟨[.int .i64 x.f0], [.slice A1 x.f1.length c1, .int .u64 x.f2], rfl, rfl, ⟨[.slice A1 x.f1.length c1], [.int .u64 x.f2], rfl, ⟨A1, c1, rfl, l1, g1⟩, rfl⟩⟩
theorem k32_mkM (w : World) (base : Nat) (ok : Nat → Prop) (x : S32) {v1 : Value} (g1 : k62.R 62 w base ok v1 x.f1) : k32.M w base ok x [.int .i64 x.f0, v1, .int .u64 x.f2] := ⟨[.int .i64 x.f0], [v1, .int .u64 x.f2], rfl, rfl, ⟨[v1], [.int .u64 x.f2], rfl, ⟨v1, rfl, g1⟩, rfl⟩⟩
def rd_T32 (xs : List S32) (i : Int) : S32 := xs.getD i.toNat z32
theorem at_T32 {w : World} {A : Option Addr} {n : Nat} {xs : List S32} (h : Kd.C k32 w A n xs) (i : Int) (h0 : 0 ≤ i) (h1 : i < n) : ∃ ad A1 c1, A = some ad ∧ w.cell? (ad.add (i.toNat * 3)) = some (.int .i64 (rd_T32 xs i).f0) ∧ w.cell? ⟨(ad.add (i.toNat * 3)).block, (ad.add (i.toNat * 3)).off + 1, none⟩ = some (.slice A1 (rd_T32 xs i).f1.length c1) ∧ w.cell? ⟨(ad.add (i.toNat * 3)).block, (ad.add (i.toNat * 3)).off + 2, none⟩ = some (.int .u64 (rd_T32 xs i).f2) ∧ (rd_T32 xs i).f1.length ≤ c1 ∧ k62.C w A1 (rd_T32 xs i).f1.length (rd_T32 xs i).f1 := by
  obtain ⟨ad, c, e, _, hK, hc0⟩ := Kd.C_get h z32 i h0 h1
  have hc : ∀ j u, c[j]? = some u → w.cell? (ad.add (i.toNat * 3 + j)) = some u := hc0
  obtain ⟨A1, c1, rfl, l1, g1⟩ := k32_open hK
  exact ⟨ad, A1, c1, e, hc 0 _ rfl, by rw [← add_field _ _ 1 (by omega)]; exact hc 1 _ rfl, by rw [← add_field _ _ 2 (by omega)]; exact hc 2 _ rfl, l1, g1⟩

def good32 (y : S32) : Prop := good3 y.f0 ∧ good30 y.f1 ∧ good26 y.f2
theorem opens32 : Opens Try.prog 32 k32 good32 := by
  intro H enc w base spare held fuel cs x h
  obtain ⟨xs, n, rfl, _, hlen, hxl, hf⟩ := DataW.trod_struct Try.underlying32 h
  have hC : Try.prog.cellsOf 32 = 3 := by kernel_rfl
  have hc3 : Try.prog.cellsOf 3 = 1 := by kernel_rfl
  have hc26 : Try.prog.cellsOf 26 = 1 := by kernel_rfl
  have hc30 : Try.prog.cellsOf 30 = 1 := by kernel_rfl
  rw [hC] at hlen
  obtain ⟨c0, c1, c2, rfl⟩ := len3 hlen
  have hxl2 : xs.length = 3 := hxl
  have h0 : DataW.trod enc Try.prog w base spare held n 3 [c0] = xs[0]? := by
    have q := hf 0 _ rfl
    simpa [hc3] using q
  rw [List.getElem?_eq_getElem (show 0 < xs.length by omega)] at h0
  obtain ⟨y0, k0_, g0⟩ := opens3 H enc w base spare held n [c0] _ h0
  have e0 : [c0] = [.int .i64 y0] := k0_
  obtain rfl : c0 = _ := (List.cons.inj e0).1
  have h1 : DataW.trod enc Try.prog w base spare held n 30 [c1] = xs[1]? := by
    have q := hf 1 _ rfl
    simpa [hc30] using q
  rw [List.getElem?_eq_getElem (show 1 < xs.length by omega)] at h1
  obtain ⟨y1, k1_, g1⟩ := opens30 H enc w base spare held n [c1] _ h1
  obtain ⟨A1, a1, e1, l1, r1⟩ := k1_
  obtain rfl : c1 = _ := (List.cons.inj e1).1
  have h2 : DataW.trod enc Try.prog w base spare held n 26 [c2] = xs[2]? := by
    have q := hf 2 _ rfl
    simpa [hc26] using q
  rw [List.getElem?_eq_getElem (show 2 < xs.length by omega)] at h2
  obtain ⟨y2, k2_, g2⟩ := opens26 H enc w base spare held n [c2] _ h2
  have e2 : [c2] = [.int .u64 y2] := k2_
  obtain rfl : c2 = _ := (List.cons.inj e2).1
  exact ⟨⟨y0, y1, y2⟩, k32_mk w ⟨y0, y1, y2⟩ l1 r1, ⟨g0, g1, g2⟩⟩
/-! #### struct type 43 -/
structure S43 where
  f0 : Int
  f1 : Int
def z43 : S43 := ⟨(0 : Int), (0 : Int)⟩
def k43 : Kd S43 := Kd.iso (Kd.pair (Kd.int .i64) (Kd.int .i64)) (fun x : S43 => (x.f0, x.f1))
theorem k43_open {w : World} {x : S43} {cs : List Value} (h : k43.K w x cs) : cs = [.int .i64 x.f0, .int .i64 x.f1] := by
  obtain ⟨_, _, rfl, rfl, rfl⟩ := h
  exact rfl
theorem k43_openM {w : World} {base : Nat} {ok : Nat → Prop} {x : S43} {cs : List Value} (h : k43.M w base ok x cs) : cs = [.int .i64 x.f0, .int .i64 x.f1] := by
  obtain ⟨_, _, rfl, rfl, rfl⟩ := h
  exact rfl
theorem k43_mk (w : World) (x : S43)  : k43.K w x [.int .i64 x.f0, .int .i64 x.f1] := ⟨[.int .i64 x.f0], [.int .i64 x.f1], rfl, rfl, rfl⟩
theorem k43_mkM (w : World) (base : Nat) (ok : Nat → Prop) (x : S43)  : k43.M w base ok x [.int .i64 x.f0, .int .i64 x.f1] := ⟨[.int .i64 x.f0], [.int .i64 x.f1], rfl, rfl, rfl⟩
def rd_T43 (xs : List S43) (i : Int) : S43 := xs.getD i.toNat z43
theorem at_T43 {w : World} {A : Option Addr} {n : Nat} {xs : List S43} (h : Kd.C k43 w A n xs) (i : Int) (h0 : 0 ≤ i) (h1 : i < n) : ∃ ad , A = some ad ∧ w.cell? (ad.add (i.toNat * 2)) = some (.int .i64 (rd_T43 xs i).f0) ∧ w.cell? ⟨(ad.add (i.toNat * 2)).block, (ad.add (i.toNat * 2)).off + 1, none⟩ = some (.int .i64 (rd_T43 xs i).f1) := by
  obtain ⟨ad, c, e, _, hK, hc0⟩ := Kd.C_get h z43 i h0 h1
  have hc : ∀ j u, c[j]? = some u → w.cell? (ad.add (i.toNat * 2 + j)) = some u := hc0
  obtain rfl := k43_open hK
  exact ⟨ad, e, hc 0 _ rfl, by rw [← add_field _ _ 1 (by omega)]; exact hc 1 _ rfl⟩

def good43 (y : S43) : Prop := good3 y.f0 ∧ good3 y.f1
theorem opens43 : Opens Try.prog 43 k43 good43 := by
  intro H enc w base spare held fuel cs x h
  obtain ⟨xs, n, rfl, _, hlen, hxl, hf⟩ := DataW.trod_array Try.underlying43 h
  have hC : Try.prog.cellsOf 43 = 2 := by kernel_rfl
  have hc3 : Try.prog.cellsOf 3 = 1 := by kernel_rfl
  rw [hC] at hlen
  obtain ⟨c0, c1, rfl⟩ := len2 hlen
  have hxl2 : xs.length = 2 := hxl
  have h0 : DataW.trod enc Try.prog w base spare held n 3 [c0] = xs[0]? := by
    have q := hf 0 (by decide)
    simpa [hc3] using q
  rw [List.getElem?_eq_getElem (show 0 < xs.length by omega)] at h0
  obtain ⟨y0, k0_, g0⟩ := opens3 H enc w base spare held n [c0] _ h0
  have e0 : [c0] = [.int .i64 y0] := k0_
  obtain rfl : c0 = _ := (List.cons.inj e0).1
  have h1 : DataW.trod enc Try.prog w base spare held n 3 [c1] = xs[1]? := by
    have q := hf 1 (by decide)
    simpa [hc3] using q
  rw [List.getElem?_eq_getElem (show 1 < xs.length by omega)] at h1
  obtain ⟨y1, k1_, g1⟩ := opens3 H enc w base spare held n [c1] _ h1
  have e1 : [c1] = [.int .i64 y1] := k1_
  obtain rfl : c1 = _ := (List.cons.inj e1).1
  exact ⟨⟨y0, y1⟩, k43_mk w ⟨y0, y1⟩ , ⟨g0, g1⟩⟩
def vireolaw08_CsrBeside.Pure2 : Prop := ∀ (b0 : S32) (b1 : S43) (b2 : Int), good32 b0 → good43 b1 → good26 b2 → vireolaw08_CsrBeside.f b0.f0 b0.f1 b0.f2 b1.f0 b1.f1 b2 = some true
end Go.Proofs.Ytkbnoeebnmphbaa.OpBe
