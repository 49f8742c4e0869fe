/- fdt.reader: its state, word. -/
import Derived.Test.YtmhlellhfepkkaaHfby
import Derived.BigQuiet
namespace Go.Proofs.Ytmhlellhfepkkaa.B
open Go.RowKit Go.Proofs.YtmhlellhfepkkaaW.PrintWords Go.Proofs.YtmhlellhfepkkaaW.PrintLast Go.Proofs.YtmhlellhfepkkaaW.PrintMore Go.Proofs.Ytmhlellhfepkkaa.PAl Go.Proofs.Ytmhlellhfepkkaa.H
attribute [local go_sem ↓] Go.wp_at_zero Go.wp_at_succ
set_option linter.unusedVariables false
set_option linter.unusedSimpArgs false
/-- A reader at block g: what is left of the tree, the names, is it bad, how many parts may come. The bytes stand as in w0. -/
structure Rs (w0 w : World) (g : Nat) (t nm : List Int) (bad : Bool) (left : Int) (At : Option Addr) (ct : Nat) (An : Option Addr) (cn : Nat) : Prop where
  b : w.heap[g]? = some (.cells #[.slice At t.length ct, .slice An nm.length cn, .bool bad, .int .i64 left] 87 (0, 0))
  tC : Kd.C U8 w0 At t.length t
  tl : t.length ≤ ct
  nC : Kd.C U8 w0 An nm.length nm
  nl : nm.length ≤ cn
  ge : w0.heap.size ≤ g
  be : Below w0.heap.size w0 w
/-- What stands in the first four bytes. -/
def wv (t : List Int) : Int := if t.length < 4 then 0 else bits .or .u32 (bits .or .u32 (bits .or .u32 (rd t 0 % 4294967296 * 16777216 % 4294967296) (rd t 1 % 4294967296 * 65536 % 4294967296)) (rd t 2 % 4294967296 * 256 % 4294967296)) (rd t 3 % 4294967296)
def rw4 (t : List Int) : List Int := if t.length < 4 then t else t.drop 4
def rbad (t : List Int) (bad : Bool) : Bool := if t.length < 4 then true else bad
theorem put_at {W : World} {g : Nat} {cs : Array Value} {t : TypeId} (h : W.heap[g]? = some (.cells cs t (0, 0))) (i : Nat) (u : Value) (cs' : Array Value) (e : cs.setIfInBounds i u = cs') :
    (W.setCell ⟨g, i, none⟩ u).heap[g]? = some (.cells cs' t (0, 0)) ∧ Kp W (W.setCell ⟨g, i, none⟩ u) (fun i => i = g) :=
  ⟨blk_put h i u e, (Kp.refl W (fun i => i = g)).setCell (p := ⟨g, i, none⟩) (.inl rfl) u⟩
set_option maxHeartbeats 400000 in
set_option maxRecDepth 100000 in
theorem rword_c (w0 w : World) (g : Nat) (t nm : List Int) (bad : Bool) (left : Int) (At : Option Addr) (ct : Nat) (An : Option Addr) (cn : Nat) (h : Rs w0 w g t nm bad left At ct An cn) (hl : t.length < 1099511627776) :
    Calls Try.prog 38 #[.pointer (some ⟨g, 0, none⟩)] w fun e w' => ∃ At' ct', e = .returned (.int .u32 (wv t)) ∧ Rs w0 w' g (rw4 t) nm (rbad t bad) left At' ct' An cn ∧ Kp w w' (fun i => i = g) := by
  have HS := Aside0.mk h
  have HL := Aside0.mk hl
  have hu87 := Try.underlying87
  have c0 : w.cell? ⟨g, 0, none⟩ = some (.slice At t.length ct) := blk_cell h.b 0
  by_cases c : t.length < 4
  · have b0 : decide ((t.length : Int) < 4) = true := decide_eq_true (by omega)
    have c2 : w.cell? ⟨g, 2, none⟩ = some (.bool bad) := blk_cell h.b 2
    have f2 : w.frozen? ⟨g, 2, none⟩ = false := blk_frozen h.b 2
    clear h hl
    go_enter Try.func38, Try.ntmps38
    go_wp2
    obtain ⟨p1, p2⟩ := put_at HS.out.b 2 (.bool true) (#[.slice At t.length ct, .slice An nm.length cn, .bool true, .int .i64 left]) rfl
    have w4 : rw4 t = t := if_pos c
    have wb : rbad t bad = true := if_pos c
    have ww : wv t = 0 := if_pos c
    rw [w4, wb, ww]
    refine bodyPost_ret (results_tmp rfl _ _ _) rfl ?_
    exact ⟨_, _, rfl, ⟨p1, HS.out.tC, HS.out.tl, HS.out.nC, HS.out.nl, HS.out.ge, HS.out.be.trans (p2.below (fun k _ e => by have := HS.out.ge; omega) HS.out.be.size)⟩, p2⟩
  · have b0 : decide ((t.length : Int) < 4) = false := decide_eq_false (by omega)
    obtain ⟨x0, x1, x2, x3, r, rfl⟩ : ∃ x0 x1 x2 x3 r, t = x0 :: x1 :: x2 :: x3 :: r := by
      rcases t with _ | ⟨x0, _ | ⟨x1, _ | ⟨x2, _ | ⟨x3, r⟩⟩⟩⟩ <;> first | (simp at c; done) | exact ⟨_, _, _, _, _, rfl⟩
    obtain ⟨ad, rfl, y0⟩ := Kd.at_int h.tC 0 (by omega) (by simp only [List.length_cons]; omega)
    have y : ∀ i : Nat, i < 4 → w.cell? (ad.add i) = some (.int .u8 (rd (x0 :: x1 :: x2 :: x3 :: r) (i : Int))) := by
      intro i hi
      obtain ⟨ad', e, q⟩ := Kd.at_int h.tC (i : Int) (by omega) (by simp only [List.length_cons]; omega)
      injection e with e
      subst e
      exact (h.be.cell (World.block_lt_of_cell? w0 _ q)).trans q
    have z0 : ad.add 0 = ad := by cases ad; simp [Addr.add]
    have y0 : w.cell? ad = some (.int .u8 x0) := by have := y 0 (by omega); rw [z0] at this; exact this
    have yf : ∀ i : Nat, 0 < i → i < 4 → w.cell? ⟨ad.block, ad.off + i, none⟩ = some (.int .u8 (rd (x0 :: x1 :: x2 :: x3 :: r) (i : Int))) := by
      intro i hi0 hi
      have e := add_field ad 0 i hi0
      rw [Nat.zero_add, z0] at e
      rw [← e]
      exact y i hi
    have y1 : w.cell? ⟨ad.block, ad.off + 1, none⟩ = some (.int .u8 x1) := yf 1 (by omega) (by omega)
    have y2 : w.cell? ⟨ad.block, ad.off + 2, none⟩ = some (.int .u8 x2) := yf 2 (by omega) (by omega)
    have y3 : w.cell? ⟨ad.block, ad.off + 3, none⟩ = some (.int .u8 x3) := yf 3 (by omega) (by omega)
    have f0 : w.frozen? ⟨g, 0, none⟩ = false := blk_frozen h.b 0
    have d0 := eq_true (show (0 : Int) < ((x0 :: x1 :: x2 :: x3 :: r).length : Int) by simp only [List.length_cons]; omega)
    have d1 := eq_true (show (1 : Int) < ((x0 :: x1 :: x2 :: x3 :: r).length : Int) by simp only [List.length_cons]; omega)
    have d2 := eq_true (show (2 : Int) < ((x0 :: x1 :: x2 :: x3 :: r).length : Int) by simp only [List.length_cons]; omega)
    have d3 := eq_true (show (3 : Int) < ((x0 :: x1 :: x2 :: x3 :: r).length : Int) by simp only [List.length_cons]; omega)
    have d4 := eq_true (show (4 : Int) ≤ ((x0 :: x1 :: x2 :: x3 :: r).length : Int) by simp only [List.length_cons]; omega)
    have e0 := eq_true (show 0 < (x0 :: x1 :: x2 :: x3 :: r).length by simp only [List.length_cons]; omega)
    have e1 := eq_true (show 1 < (x0 :: x1 :: x2 :: x3 :: r).length by simp only [List.length_cons]; omega)
    have e2 := eq_true (show 2 < (x0 :: x1 :: x2 :: x3 :: r).length by simp only [List.length_cons]; omega)
    have e3 := eq_true (show 3 < (x0 :: x1 :: x2 :: x3 :: r).length by simp only [List.length_cons]; omega)
    have w4 : rw4 (x0 :: x1 :: x2 :: x3 :: r) = r := if_neg c
    have wb : rbad (x0 :: x1 :: x2 :: x3 :: r) bad = bad := if_neg c
    have ww : wv (x0 :: x1 :: x2 :: x3 :: r) = bits .or .u32 (bits .or .u32 (bits .or .u32 (x0 % 4294967296 * 16777216 % 4294967296) (x1 % 4294967296 * 65536 % 4294967296)) (x2 % 4294967296 * 256 % 4294967296)) (x3 % 4294967296) := if_neg c
    rw [w4, wb, ww]
    clear w4 wb ww
    generalize hN : (x0 :: x1 :: x2 :: x3 :: r).length = n at *
    clear h hl y yf z0
    go_enter Try.func38, Try.ntmps38
    go_wp2
    go_quiet (fail)
    have HW := Aside0.mk (show (ct = 4 ∨ ct ≠ 4) ∧ n ≤ ct ∧ n = r.length + 4 from ⟨by omega, by have := HS.out.tl; rw [hN] at this; exact this, by rw [← hN]; rfl⟩)
    have HD := Aside0.mk (Kd.C_drop (m := 4) (c := ct) HS.out.tC (by rw [hN]; have := HW.out.2.2; omega) (by rw [hN]; exact HW.out.2.1))
    rcases HW.out.1 with c4 | c4
    · have cc := eq_true c4
      go_wp2
      have en : n - 4 = r.length := by have := HW.out.2.2; omega
      have hd : Kd.C U8 w0 (some ad) r.length r := by have := HD.out; rw [if_pos c4] at this; exact this
      obtain ⟨p1, _⟩ := put_at (W := w.drewN nq) HS.out.b 0 (.slice (some ad) (n - 4) 0) (#[.slice (some ad) (n - 4) 0, .slice An nm.length cn, .bool bad, .int .i64 left]) rfl
      have p2 : Kp w ((w.drewN nq).setCell ⟨g, 0, none⟩ (.slice (some ad) (n - 4) 0)) (fun i => i = g) := ((Kp.refl w (fun i => i = g)).drewN nq).setCell (p := ⟨g, 0, none⟩) (.inl rfl) _
      rw [en] at p1 p2 ⊢
      refine bodyPost_ret (results_tmp rfl _ _ _) rfl ?_
      exact ⟨_, _, rfl, ⟨p1, hd, by have := HW.out; omega, HS.out.nC, HS.out.nl, HS.out.ge, HS.out.be.trans (p2.below (fun k _ e => by have := HS.out.ge; omega) HS.out.be.size)⟩, p2⟩
    · have cc := eq_false c4
      go_wp2
      have en : n - 4 = r.length := by have := HW.out.2.2; omega
      have hd : Kd.C U8 w0 (some ⟨ad.block, ad.off + 4, none⟩) r.length r := by
        have := HD.out
        rw [if_neg c4] at this
        have e := add_field ad 0 4 (by omega)
        rw [Nat.zero_add, show ad.add 0 = ad from by cases ad; simp [Addr.add]] at e
        rw [← e]
        exact this
      obtain ⟨p1, _⟩ := put_at (W := w.drewN nq) HS.out.b 0 (.slice (some ⟨ad.block, ad.off + 4, none⟩) (n - 4) (ct - 4)) (#[.slice (some ⟨ad.block, ad.off + 4, none⟩) (n - 4) (ct - 4), .slice An nm.length cn, .bool bad, .int .i64 left]) rfl
      have p2 : Kp w ((w.drewN nq).setCell ⟨g, 0, none⟩ (.slice (some ⟨ad.block, ad.off + 4, none⟩) (n - 4) (ct - 4))) (fun i => i = g) := ((Kp.refl w (fun i => i = g)).drewN nq).setCell (p := ⟨g, 0, none⟩) (.inl rfl) _
      rw [en] at p1 p2 ⊢
      refine bodyPost_ret (results_tmp rfl _ _ _) rfl ?_
      exact ⟨_, _, rfl, ⟨p1, hd, by have := HW.out; omega, HS.out.nC, HS.out.nl, HS.out.ge, HS.out.be.trans (p2.below (fun k _ e => by have := HS.out.ge; omega) HS.out.be.size)⟩, p2⟩
end Go.Proofs.Ytmhlellhfepkkaa.B
