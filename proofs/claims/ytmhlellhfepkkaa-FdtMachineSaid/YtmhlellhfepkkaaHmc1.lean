/- What fdt.Machine's regions make: literals, structs; its callees, told as rows that are read. -/
import Derived.Test.YtmhlellhfepkkaaHmc0
import Derived.Test.YtmhlellhfepkkaaHq
import Derived.Test.YtmhlellhfepkkaaPAlx9
namespace Go.Proofs.Ytmhlellhfepkkaa.H
open Go.RowKit Go.Proofs.YtmhlellhfepkkaaW.PrintWords Go.Proofs.YtmhlellhfepkkaaW.PrintLast Go.Proofs.YtmhlellhfepkkaaW.PrintMore Go.Proofs.Ytmhlellhfepkkaa.PAl Go.Proofs.Ytmhlellhfepkkaa.B
set_option linter.unusedVariables false
set_option linter.unusedSimpArgs false
theorem reps_cons {α : Type} {R : α → List Value → Prop} {size : Nat} {x : α} {xs : List α} {c cs : List Value} (h : R x c) (hc : c.length = size) (hs : Reps R size xs cs) : Reps R size (x :: xs) (c ++ cs) :=
  Kd.reps_append (ps := [x]) (qs := xs) ((Reps.none R size).snoc h hc) hs
theorem k74_sl {w : World} {x : S74} {u : Value} (h : Sl (Kd.int .u8) w u x.f1) : Kd.FK k74 w (okW w) x [.string x.f0, u] := by
  obtain ⟨A, c, rfl, h1, h2⟩ := h
  exact k74_mkF w _ x h1 h2
theorem k32_sl {w : World} {x : S32} {u1 u2 : Value} (h1 : Sl k74 w u1 x.f1) (h2 : Sl k32 w u2 x.f2) : Kd.FK k32 w (okW w) x [.string x.f0, u1, u2] := by
  obtain ⟨A, c, rfl, a1, a2⟩ := h1
  obtain ⟨A', c', rfl, b1, b2⟩ := h2
  exact k32_mkF w _ x a1 a2 b1 b2
theorem str_sl {w : World} {s : ByteArray} : Kd.FK Kd.string w (okW w) s [.string s] := fun _ _ => rfl
theorem u32_sl {w : World} {s : Int} : Kd.FK (Kd.int .u32) w (okW w) s [.int .u32 s] := fun _ _ => rfl
section
variable {P : Program} {ops : Array Oper} {Q : Exit → Act → World → Prop} {o : Oper} {F : Value → World → Prop} {a : Act} {w : World}
theorem gS_bs (hw : Region.wanted o (yielded ops a.tmps) = true) {t n : Nat} {parts : Array (Nat × Operand)} (ho : o.op = .buildSlice t n parts) (ps : Array (Nat × Value)) (v : Value) (w1 : World) (hps : (parts.map fun (i, x) => (i, a.eval x)) = ps) (hrun : (Instr.buildSlice t n ps).run P w = .ok v w1) (hF : F v w1) : stepS P ops Q o F a w := by
  refine gS_run hw v w1 ?_ hF
  unfold execOp
  simp only [ho, hps]
  rw [Sem.run_bind, hrun]; rfl
/-- 's[2:]' of a text. -/
theorem gS_s2 (hw : Region.wanted o (yielded ops a.tmps) = true) {x : Operand} (ho : o.op = .slice 9 x (some (.const (.int .i64 2))) none none) (s : ByteArray) (hx : a.eval x = .string s) (hs : 2 ≤ s.size) (hF : F (.string (s.extract 2 s.size)) w) : stepS Try.prog ops Q o F a w := by
  refine gS_run hw _ w ?_ hF
  have hs' : (2 : Int) ≤ (s.size : Int) := by omega
  have hc : a.eval (.const (.int .i64 2)) = .int .i64 2 := rfl
  unfold execOp
  simp only [ho, hx, Option.map_some, Option.map_none, hc]
  go_simp
end
theorem bs38_1 (w : World) (s0 : ByteArray) : (Instr.buildSlice 38 1 #[(0, .string s0)]).run Try.prog w = .ok (.slice (some ⟨w.heap.size, 0, none⟩) 1 1) (w.alloc (.cells #[.string s0] 9)) := by go_simp
theorem bs38_2 (w : World) (s0 s1 : ByteArray) : (Instr.buildSlice 38 2 #[(0, .string s0), (1, .string s1)]).run Try.prog w = .ok (.slice (some ⟨w.heap.size, 0, none⟩) 2 2) (w.alloc (.cells #[.string s0, .string s1] 9)) := by go_simp
theorem bs37_1 (w : World) (s0 : Int) : (Instr.buildSlice 37 1 #[(0, .int .u32 s0)]).run Try.prog w = .ok (.slice (some ⟨w.heap.size, 0, none⟩) 1 1) (w.alloc (.cells #[.int .u32 s0] 41)) := by go_simp
theorem bs37_4 (w : World) (s0 s1 s2 s3 : Int) : (Instr.buildSlice 37 4 #[(0, .int .u32 s0), (1, .int .u32 s1), (2, .int .u32 s2), (3, .int .u32 s3)]).run Try.prog w = .ok (.slice (some ⟨w.heap.size, 0, none⟩) 4 4) (w.alloc (.cells #[.int .u32 s0, .int .u32 s1, .int .u32 s2, .int .u32 s3] 41)) := by go_simp
theorem bs29_1 (w : World) (s0 : ByteArray) (A0 : Option Addr) (n0 c0 : Nat) : (Instr.buildSlice 29 1 #[(0, .agg #[.string s0, .slice A0 n0 c0])]).run Try.prog w = .ok (.slice (some ⟨w.heap.size, 0, none⟩) 1 1) (w.alloc (.cells #[.string s0, .slice A0 n0 c0] 74)) := by go_simp
theorem bs29_2 (w : World) (s0 : ByteArray) (A0 : Option Addr) (n0 c0 : Nat) (s1 : ByteArray) (A1 : Option Addr) (n1 c1 : Nat) : (Instr.buildSlice 29 2 #[(0, .agg #[.string s0, .slice A0 n0 c0]), (1, .agg #[.string s1, .slice A1 n1 c1])]).run Try.prog w = .ok (.slice (some ⟨w.heap.size, 0, none⟩) 2 2) (w.alloc (.cells #[.string s0, .slice A0 n0 c0, .string s1, .slice A1 n1 c1] 74)) := by go_simp
theorem bs29_3 (w : World) (s0 : ByteArray) (A0 : Option Addr) (n0 c0 : Nat) (s1 : ByteArray) (A1 : Option Addr) (n1 c1 : Nat) (s2 : ByteArray) (A2 : Option Addr) (n2 c2 : Nat) : (Instr.buildSlice 29 3 #[(0, .agg #[.string s0, .slice A0 n0 c0]), (1, .agg #[.string s1, .slice A1 n1 c1]), (2, .agg #[.string s2, .slice A2 n2 c2])]).run Try.prog w = .ok (.slice (some ⟨w.heap.size, 0, none⟩) 3 3) (w.alloc (.cells #[.string s0, .slice A0 n0 c0, .string s1, .slice A1 n1 c1, .string s2, .slice A2 n2 c2] 74)) := by go_simp
theorem bs29_4 (w : World) (s0 : ByteArray) (A0 : Option Addr) (n0 c0 : Nat) (s1 : ByteArray) (A1 : Option Addr) (n1 c1 : Nat) (s2 : ByteArray) (A2 : Option Addr) (n2 c2 : Nat) (s3 : ByteArray) (A3 : Option Addr) (n3 c3 : Nat) : (Instr.buildSlice 29 4 #[(0, .agg #[.string s0, .slice A0 n0 c0]), (1, .agg #[.string s1, .slice A1 n1 c1]), (2, .agg #[.string s2, .slice A2 n2 c2]), (3, .agg #[.string s3, .slice A3 n3 c3])]).run Try.prog w = .ok (.slice (some ⟨w.heap.size, 0, none⟩) 4 4) (w.alloc (.cells #[.string s0, .slice A0 n0 c0, .string s1, .slice A1 n1 c1, .string s2, .slice A2 n2 c2, .string s3, .slice A3 n3 c3] 74)) := by go_simp
theorem bs29_5 (w : World) (s0 : ByteArray) (A0 : Option Addr) (n0 c0 : Nat) (s1 : ByteArray) (A1 : Option Addr) (n1 c1 : Nat) (s2 : ByteArray) (A2 : Option Addr) (n2 c2 : Nat) (s3 : ByteArray) (A3 : Option Addr) (n3 c3 : Nat) (s4 : ByteArray) (A4 : Option Addr) (n4 c4 : Nat) : (Instr.buildSlice 29 5 #[(0, .agg #[.string s0, .slice A0 n0 c0]), (1, .agg #[.string s1, .slice A1 n1 c1]), (2, .agg #[.string s2, .slice A2 n2 c2]), (3, .agg #[.string s3, .slice A3 n3 c3]), (4, .agg #[.string s4, .slice A4 n4 c4])]).run Try.prog w = .ok (.slice (some ⟨w.heap.size, 0, none⟩) 5 5) (w.alloc (.cells #[.string s0, .slice A0 n0 c0, .string s1, .slice A1 n1 c1, .string s2, .slice A2 n2 c2, .string s3, .slice A3 n3 c3, .string s4, .slice A4 n4 c4] 74)) := by go_simp
theorem bs29_7 (w : World) (s0 : ByteArray) (A0 : Option Addr) (n0 c0 : Nat) (s1 : ByteArray) (A1 : Option Addr) (n1 c1 : Nat) (s2 : ByteArray) (A2 : Option Addr) (n2 c2 : Nat) (s3 : ByteArray) (A3 : Option Addr) (n3 c3 : Nat) (s4 : ByteArray) (A4 : Option Addr) (n4 c4 : Nat) (s5 : ByteArray) (A5 : Option Addr) (n5 c5 : Nat) (s6 : ByteArray) (A6 : Option Addr) (n6 c6 : Nat) : (Instr.buildSlice 29 7 #[(0, .agg #[.string s0, .slice A0 n0 c0]), (1, .agg #[.string s1, .slice A1 n1 c1]), (2, .agg #[.string s2, .slice A2 n2 c2]), (3, .agg #[.string s3, .slice A3 n3 c3]), (4, .agg #[.string s4, .slice A4 n4 c4]), (5, .agg #[.string s5, .slice A5 n5 c5]), (6, .agg #[.string s6, .slice A6 n6 c6])]).run Try.prog w = .ok (.slice (some ⟨w.heap.size, 0, none⟩) 7 7) (w.alloc (.cells #[.string s0, .slice A0 n0 c0, .string s1, .slice A1 n1 c1, .string s2, .slice A2 n2 c2, .string s3, .slice A3 n3 c3, .string s4, .slice A4 n4 c4, .string s5, .slice A5 n5 c5, .string s6, .slice A6 n6 c6] 74)) := by go_simp
theorem bs30_1 (w : World) (s0 : ByteArray) (A0 : Option Addr) (n0 c0 : Nat) (B0 : Option Addr) (m0 d0 : Nat) : (Instr.buildSlice 30 1 #[(0, .agg #[.string s0, .slice A0 n0 c0, .slice B0 m0 d0])]).run Try.prog w = .ok (.slice (some ⟨w.heap.size, 0, none⟩) 1 1) (w.alloc (.cells #[.string s0, .slice A0 n0 c0, .slice B0 m0 d0] 32)) := by go_simp
theorem bs30_3 (w : World) (s0 : ByteArray) (A0 : Option Addr) (n0 c0 : Nat) (B0 : Option Addr) (m0 d0 : Nat) (s1 : ByteArray) (A1 : Option Addr) (n1 c1 : Nat) (B1 : Option Addr) (m1 d1 : Nat) (s2 : ByteArray) (A2 : Option Addr) (n2 c2 : Nat) (B2 : Option Addr) (m2 d2 : Nat) : (Instr.buildSlice 30 3 #[(0, .agg #[.string s0, .slice A0 n0 c0, .slice B0 m0 d0]), (1, .agg #[.string s1, .slice A1 n1 c1, .slice B1 m1 d1]), (2, .agg #[.string s2, .slice A2 n2 c2, .slice B2 m2 d2])]).run Try.prog w = .ok (.slice (some ⟨w.heap.size, 0, none⟩) 3 3) (w.alloc (.cells #[.string s0, .slice A0 n0 c0, .slice B0 m0 d0, .string s1, .slice A1 n1 c1, .slice B1 m1 d1, .string s2, .slice A2 n2 c2, .slice B2 m2 d2] 32)) := by go_simp
theorem bs30_4 (w : World) (s0 : ByteArray) (A0 : Option Addr) (n0 c0 : Nat) (B0 : Option Addr) (m0 d0 : Nat) (s1 : ByteArray) (A1 : Option Addr) (n1 c1 : Nat) (B1 : Option Addr) (m1 d1 : Nat) (s2 : ByteArray) (A2 : Option Addr) (n2 c2 : Nat) (B2 : Option Addr) (m2 d2 : Nat) (s3 : ByteArray) (A3 : Option Addr) (n3 c3 : Nat) (B3 : Option Addr) (m3 d3 : Nat) : (Instr.buildSlice 30 4 #[(0, .agg #[.string s0, .slice A0 n0 c0, .slice B0 m0 d0]), (1, .agg #[.string s1, .slice A1 n1 c1, .slice B1 m1 d1]), (2, .agg #[.string s2, .slice A2 n2 c2, .slice B2 m2 d2]), (3, .agg #[.string s3, .slice A3 n3 c3, .slice B3 m3 d3])]).run Try.prog w = .ok (.slice (some ⟨w.heap.size, 0, none⟩) 4 4) (w.alloc (.cells #[.string s0, .slice A0 n0 c0, .slice B0 m0 d0, .string s1, .slice A1 n1 c1, .slice B1 m1 d1, .string s2, .slice A2 n2 c2, .slice B2 m2 d2, .string s3, .slice A3 n3 c3, .slice B3 m3 d3] 32)) := by go_simp
theorem bd74_2 (w : World) (s : ByteArray) (A : Option Addr) (n c : Nat) : (Instr.build 74 #[(0, .string s), (1, .slice A n c)]).run Try.prog w = .ok (.agg #[.string s, .slice A n c]) w := by go_simp
theorem bd74_1 (w : World) (s : ByteArray) : (Instr.build 74 #[(0, .string s)]).run Try.prog w = .ok (.agg #[.string s, .slice none 0 0]) w := by go_simp
theorem bd32_01 (w : World) (s : ByteArray) (A : Option Addr) (n c : Nat) : (Instr.build 32 #[(0, .string s), (1, .slice A n c)]).run Try.prog w = .ok (.agg #[.string s, .slice A n c, .slice none 0 0]) w := by go_simp
theorem bd32_012 (w : World) (s : ByteArray) (A : Option Addr) (n c : Nat) (B : Option Addr) (m d : Nat) : (Instr.build 32 #[(0, .string s), (1, .slice A n c), (2, .slice B m d)]).run Try.prog w = .ok (.agg #[.string s, .slice A n c, .slice B m d]) w := by go_simp
theorem bd32_12 (w : World) (A : Option Addr) (n c : Nat) (B : Option Addr) (m d : Nat) : (Instr.build 32 #[(1, .slice A n c), (2, .slice B m d)]).run Try.prog w = .ok (.agg #[.string ⟨#[]⟩, .slice A n c, .slice B m d]) w := by go_simp
theorem zero32c (w : World) : (zeroValue 32).run Try.prog w = .ok (.agg z32c) w := by kernel_rfl
/-! callees -/
theorem texts_m {w : World} {A : Option Addr} {c : Nat} {l : List ByteArray} (hF : Kd.F Kd.string w (okW w) A l.length l) (hc : l.length ≤ c) (hl : (textsOf l).length < 140737488355328) :
    Calls Try.prog 19 #[.slice A l.length c] w fun e w' => ∃ v, e = .returned v ∧ KpN w w' ∧ Sl (Kd.int .u8) w' v (textsOf l) := by
  obtain ⟨k, hk⟩ := (texts_is l hl).rounds
  exact (fdt_Texts.calls k A c l _ w (Kd.F_now hF) hc hk).mono fun e w' h => by obtain ⟨v, rfl, hR, hB⟩ := h; exact ⟨v, rfl, kpn_of hB, Sl.ofR rfl (by decide) hR⟩
theorem cells_m {w : World} {A : Option Addr} {c : Nat} {l : List Int} (hF : Kd.F (Kd.int .u32) w (okW w) A l.length l) (hc : l.length ≤ c) (hl : l.length < 35184372088832) :
    Calls Try.prog 18 #[.slice A l.length c] w fun e w' => ∃ v, e = .returned v ∧ KpN w w' ∧ Sl (Kd.int .u8) w' v (l.flatMap w32) := by
  obtain ⟨k, hk⟩ := (cells_is l hl).rounds
  exact (fdt_Cells.calls k A c l _ w (Kd.F_now hF) hc hk).mono fun e w' h => by obtain ⟨v, rfl, hR, hB⟩ := h; exact ⟨v, rfl, kpn_of hB, Sl.ofR rfl (by decide) hR⟩
def w64b (x : Int) : List Int := w32 (x / 4294967296 % 4294967296) ++ w32 (x % 4294967296)
def regP (x y : Int) : S74 := ⟨⟨#[114, 101, 103]⟩, w64b x ++ w64b y⟩
theorem reg_m (w : World) (x y : Int) : Calls Try.prog 35 #[.int .u64 x, .int .u64 y] w fun e w' => ∃ v, e = .returned v ∧ KpN w w' ∧ (Stb.prop (regP x y)).p v w' :=
  (fdt_reg.calls x y _ _ w (show fdt_reg.f x y = some (⟨#[114, 101, 103]⟩, w64b x ++ w64b y) by kernel_rfl)).mono fun e w' h => by obtain ⟨v, rfl, hR, hB⟩ := h; exact ⟨_, rfl, kpn_of hB, v, rfl, Sl.ofR rfl (by decide) hR⟩
theorem hex_m (w : World) (k : Nat) (x : Int) (s : ByteArray) (h : word_Hex.f k x = some s) : Calls Try.prog 34 #[.int .u64 x] w fun e w' => ∃ v, e = .returned v ∧ KpN w w' ∧ v = .string s :=
  (word_Hex.calls k x s w h).mono fun e w' h => by obtain ⟨rfl, m, rfl⟩ := h; exact ⟨_, rfl, (Kp.refl _ _).drewN m, rfl⟩
end Go.Proofs.Ytmhlellhfepkkaa.H
