/- The law FdtMachine: words, its callees, what the tree tells. -/
import Derived.Test.YtmhlellhfepkkaaHmm
import Derived.Test.YtmhlellhfepkkaaLm
namespace Go.Proofs.Ytmhlellhfepkkaa.H
open Go.RowKit Go.Proofs.YtmhlellhfepkkaaW.PrintWords Go.Proofs.YtmhlellhfepkkaaW.PrintLast Go.Proofs.YtmhlellhfepkkaaW.PrintMore Go.Proofs.Ytmhlellhfepkkaa.PAl Go.Proofs.Ytmhlellhfepkkaa.B
set_option linter.unusedVariables false
set_option linter.unusedSimpArgs false
def Stb.blk (cs : Array Value) (e n : Nat) : Stb := ⟨fun v w => ∃ b, v = .slice (some ⟨b, 0, none⟩) n n ∧ w.heap[b]? = some (.cells cs e (0, 0)), fun _ _ _ h k => by obtain ⟨b, h1, h2⟩ := h; exact ⟨b, h1, (k.block b (blk_lt h2) (fun h => h)).trans h2⟩⟩
def Stb.at (cs : Array Value) (e off : Nat) : Stb := ⟨fun v w => ∃ b, v = .pointer (some ⟨b, off, none⟩) ∧ w.heap[b]? = some (.cells cs e (0, 0)), fun _ _ _ h k => by obtain ⟨b, h1, h2⟩ := h; exact ⟨b, h1, (k.block b (blk_lt h2) (fun h => h)).trans h2⟩⟩
def namesC : Array Value := #[.string ⟨#[112, 108, 105, 99, 64, 99, 48, 48, 48, 48, 48, 48]⟩, .string ⟨#[99, 108, 105, 110, 116, 64, 50, 48, 48, 48, 48, 48, 48]⟩, .string ⟨#[118, 105, 114, 116, 105, 111, 64, 49, 48, 48, 48, 49, 48, 48, 48]⟩, .string ⟨#[118, 105, 114, 116, 105, 111, 64, 49, 48, 48, 48, 50, 48, 48, 48]⟩]
def placesC : Array Value := #[.int .u64 201326592, .int .u64 4194304, .int .u64 33554432, .int .u64 65536, .int .u64 268439552, .int .u64 4096, .int .u64 268443648, .int .u64 4096]
theorem bs38_4 (w : World) (s0 s1 s2 s3 : ByteArray) : (Instr.buildSlice 38 4 #[(0, .string s0), (1, .string s1), (2, .string s2), (3, .string s3)]).run Try.prog w = .ok (.slice (some ⟨w.heap.size, 0, none⟩) 4 4) (w.alloc (.cells #[.string s0, .string s1, .string s2, .string s3] 9)) := by go_simp
theorem bs25_11 (w : World) (s0 s1 s2 s3 s4 s5 s6 s7 s8 s9 s10 : Int) : (Instr.buildSlice 25 11 #[(0, .int .u8 s0), (1, .int .u8 s1), (2, .int .u8 s2), (3, .int .u8 s3), (4, .int .u8 s4), (5, .int .u8 s5), (6, .int .u8 s6), (7, .int .u8 s7), (8, .int .u8 s8), (9, .int .u8 s9), (10, .int .u8 s10)]).run Try.prog w = .ok (.slice (some ⟨w.heap.size, 0, none⟩) 11 11) (w.alloc (.cells #[.int .u8 s0, .int .u8 s1, .int .u8 s2, .int .u8 s3, .int .u8 s4, .int .u8 s5, .int .u8 s6, .int .u8 s7, .int .u8 s8, .int .u8 s9, .int .u8 s10] 5)) := by go_simp
theorem bs63_4 (w : World) (s0 t0 s1 t1 s2 t2 s3 t3 : Int) : (Instr.buildSlice 63 4 #[(0, .agg #[.int .u64 s0, .int .u64 t0]), (1, .agg #[.int .u64 s1, .int .u64 t1]), (2, .agg #[.int .u64 s2, .int .u64 t2]), (3, .agg #[.int .u64 s3, .int .u64 t3])]).run Try.prog w = .ok (.slice (some ⟨w.heap.size, 0, none⟩) 4 4) (w.alloc (.cells #[.int .u64 s0, .int .u64 t0, .int .u64 s1, .int .u64 t1, .int .u64 s2, .int .u64 t2, .int .u64 s3, .int .u64 t3] 62)) := by go_simp
theorem bd62 (w : World) (x y : Int) : (Instr.build 62 #[(0, .int .u64 x), (1, .int .u64 y)]).run Try.prog w = .ok (.agg #[.int .u64 x, .int .u64 y]) w := by go_simp
theorem u8_sl {w : World} {s : Int} : Kd.FK (Kd.int .u8) w (okW w) s [.int .u8 s] := fun _ _ => rfl
theorem ldc9 (p : Addr) (v : Value) (w : World) (h : w.cell? p = some v) : (Instr.loadAt 9 (.pointer (some p))).run Try.prog w = .ok v w := by go_simp
theorem ldc39 (p : Addr) (v : Value) (w : World) (h : w.cell? p = some v) : (Instr.loadAt 39 (.pointer (some p))).run Try.prog w = .ok v w := by go_simp
section
variable {ops : Array Oper} {Q : Exit → Act → World → Prop} {o : Oper} {F : Value → World → Prop} {a : Act} {w : World} {K : Act → World → Prop} {P : Program}
theorem last_step (hg : o.guard = none) (h : stepS P ops Q o F a w) (hK : ∀ v w', F v w' → K (a.put o.dst v) w') : o.wp P a w K Q := by
  unfold stepS at h
  rw [if_pos (wanted_none hg _)] at h
  exact Oper.wp_mono (fun a' w' h => by obtain ⟨v, rfl, hF⟩ := h; exact hK v w' hF) h
theorem len38 (ty : TypeId) (A : Option Addr) (c : Nat) (w : World) : (Builtin.len_ #[38] ty #[.slice A 4 c]).run Try.prog w = .ok (.int .i64 4) w := by kernel_rfl
theorem gS_len (hw : Region.wanted o (yielded ops a.tmps) = true) {x : Operand} (ho : o.op = .call { callee := .builtin .len, args := #[x], argTypes := #[38] }) (A : Option Addr) (c : Nat) (hx : a.eval x = .slice A 4 c) (hF : F (.int .i64 4) w) : stepS Try.prog ops Q o F a w := by
  refine sS_in hw ?_
  unfold Oper.wp execOp
  simp only [ho, resolve, invoke, builtin, Sem.run_bind, Sem.run_pure, Result.andThen_ok, List.map_toArray, List.map_cons, List.map_nil, hx, len38]
  exact ⟨_, rfl, hF⟩
end
/-! callees -/
theorem awake_m (w : World) : Calls Try.prog 9 #[] w fun e w' => ∃ v, e = .returned v ∧ KpN w w' ∧ v = .bool true :=
  (vireolaw26_awake.calls 20 true w (by kernel_rfl)).mono fun e w' h => ⟨_, h.1, kpn_of h.2, rfl⟩
theorem right_k (sz : Int) : fdt_Right.f 200 (n25_5 sz).f0 (n25_5 sz).f1 (n25_5 sz).f2 = some 0 := by kernel_rfl
theorem right_m (w : World) (sz : Int) {A B : Option Addr} {c d : Nat} (q : Kd.F k74 w (okW w) A (n25_5 sz).f1.length (n25_5 sz).f1) (l : (n25_5 sz).f1.length ≤ c) (r : Kd.F k32 w (okW w) B (n25_5 sz).f2.length (n25_5 sz).f2) (m : (n25_5 sz).f2.length ≤ d) :
    Calls Try.prog 14 #[.agg #[.string (n25_5 sz).f0, .slice A (n25_5 sz).f1.length c, .slice B (n25_5 sz).f2.length d]] w fun e w' => ∃ v, e = .returned v ∧ KpN w w' ∧ v = .int .i64 0 :=
  (fdt_Right.calls 200 _ _ _ _ _ _ _ 0 w (Kd.F_now q) l (Kd.F_now r) m (right_k sz)).mono fun e w' h => ⟨_, h.1, kpn_of h.2, rfl⟩
theorem word_m (w : World) (x : Int) (h0 : 0 ≤ x) (h1 : x < 4611686018427387904) : Calls Try.prog 17 #[.int .i64 x] w fun e w' => ∃ v, e = .returned v ∧ KpN w w' ∧ Sl (Kd.int .u8) w' v (w32 x) :=
  (vireoref26_Word.calls x _ w (wordR_is x h0 h1)).mono fun e w' h => by obtain ⟨v, rfl, hR, hB⟩ := h; exact ⟨v, rfl, kpn_of hB, Sl.ofR rfl (by decide) hR⟩
theorem half_is (x : Int) (h0 : 0 ≤ x) (h1 : x < 18446744073709551616) : vireoref26_Word.f (wrap64 (x / 4294967296)) = some (w32 (x / 4294967296 % 4294967296)) ∧ vireoref26_Word.f (wrap64 (Int.tmod x 4294967296)) = some (w32 (x % 4294967296)) := by
  rw [Int.tmod_eq_emod_of_nonneg h0, w64 (by omega) (by omega), w64 (by omega) (by omega), wordR_is _ (by omega) (by omega), wordR_is _ (by omega) (by omega)]
  exact ⟨by rw [show x / 4294967296 % 4294967296 = x / 4294967296 by omega], rfl⟩
theorem place_is (x y : Int) (hx0 : 0 ≤ x) (hx1 : x < 18446744073709551616) (hy0 : 0 ≤ y) (hy1 : y < 18446744073709551616) : vireolaw26_place.f x y = some (w64b x ++ w64b y) := by
  obtain ⟨a1, a2⟩ := half_is x hx0 hx1
  obtain ⟨b1, b2⟩ := half_is y hy0 hy1
  unfold vireolaw26_place.f
  rw [a1, Option.bind_some, a2, Option.bind_some, if_pos (by rw [w32_len, w32_len]; decide), Option.bind_some, b1, Option.bind_some, if_pos (by simp only [List.length_append, w32_len]; decide), Option.bind_some, b2, Option.bind_some, if_pos (by simp only [List.length_append, w32_len]; decide)]
  simp only [w64b, List.append_assoc]
theorem place_m (w : World) (x y : Int) (hx0 : 0 ≤ x) (hx1 : x < 18446744073709551616) (hy0 : 0 ≤ y) (hy1 : y < 18446744073709551616) : Calls Try.prog 27 #[.int .u64 x, .int .u64 y] w fun e w' => ∃ v, e = .returned v ∧ KpN w w' ∧ Sl (Kd.int .u8) w' v (w64b x ++ w64b y) :=
  (vireolaw26_place.calls x y _ w (place_is x y hx0 hx1 hy0 hy1)).mono fun e w' h => by obtain ⟨v, rfl, hR, hB⟩ := h; exact ⟨v, rfl, kpn_of hB, Sl.ofR rfl (by decide) hR⟩
theorem told_m (w : World) {sz : Int} {A B A1 A3 : Option Addr} {c d c1 c3 : Nat} {path : List ByteArray} {name : ByteArray} {want : List Int} (q : Kd.F k74 w (okW w) A (n25_5 sz).f1.length (n25_5 sz).f1) (l : (n25_5 sz).f1.length ≤ c) (r : Kd.F k32 w (okW w) B (n25_5 sz).f2.length (n25_5 sz).f2) (m : (n25_5 sz).f2.length ≤ d)
    (q1 : Kd.F Kd.string w (okW w) A1 path.length path) (l1 : path.length ≤ c1) (q3 : Kd.F (Kd.int .u8) w (okW w) A3 want.length want) (l3 : want.length ≤ c3) (h : ∃ k, vireolaw26_told.f k (n25_5 sz).f0 (n25_5 sz).f1 (n25_5 sz).f2 path name want = some true) :
    Calls Try.prog 26 #[.agg #[.string (n25_5 sz).f0, .slice A (n25_5 sz).f1.length c, .slice B (n25_5 sz).f2.length d], .slice A1 path.length c1, .string name, .slice A3 want.length c3] w fun e w' => ∃ v, e = .returned v ∧ KpN w w' ∧ v = .bool true := by
  obtain ⟨k, hk⟩ := h
  exact (vireolaw26_told.calls k _ _ _ _ _ _ _ _ _ _ _ _ _ _ true w (Kd.F_now q) l (Kd.F_now r) m (Kd.F_now q1) l1 (Kd.F_now q3) l3 hk).mono fun e w' h => ⟨_, h.1, kpn_of h.2, rfl⟩
/-! what the tree tells -/
theorem told_yes {n x : S32} {path : List ByteArray} {name : ByteArray} {data want : List Int} (k0 : Nat) (hF : fdt_Find.f n.f0 n.f1 n.f2 path = some (x.f0, x.f1, x.f2, true)) (hT : fdt_Told.f k0 x.f0 x.f1 x.f2 name = some (data, true)) (he : data = want) (hl : data.length < 140737488355328) : ∃ k, vireolaw26_told.f k n.f0 n.f1 n.f2 path name want = some true := by
  subst he
  have e : Ev (fun k => vireolaw26_told.f k n.f0 n.f1 n.f2 path name data) true := by
    unfold vireolaw26_told.f
    refine Ev.congr (f := fun k => (fdt_Told.f k x.f0 x.f1 x.f2 name).bind fun bt239 => (if true = true then (if bt239.2 = true then ((vireoref02_Bytes.f k bt239.1 data).bind fun t243 => (some t243)) else (some false)) else (some false))) (fun k => by rw [hF]; rfl) ?_
    refine Ev.bind (Ev.of (fun k => fdt_Told.mono _ _ _ _ k) hT) ?_
    refine Ev.congr (f := fun k => (vireoref02_Bytes.f k data data).bind fun t243 => some t243) (fun k => by rw [if_pos rfl, if_pos rfl]) (Ev.bind (bytes_is data data hl) (Ev.congr (f := fun _ => some true) (fun k => by simp) (Ev.now _)))
  exact e.rounds
theorem told_mem (sz : Int) : ∃ k, vireolaw26_told.f k (n25_5 sz).f0 (n25_5 sz).f1 (n25_5 sz).f2 [(⟨#[109, 101, 109, 111, 114, 121, 64, 56, 48, 48, 48, 48, 48, 48, 48]⟩ : ByteArray)] ⟨#[114, 101, 103]⟩ (w64b 2147483648 ++ w64b sz) = some true :=
  told_yes (n := n25_5 sz) (x := (rd_T32 (n25_5 sz).f2 0)) (data := (regP 2147483648 sz).f1) 20 (by kernel_rfl) (by kernel_rfl) (by kernel_rfl) (of_decide_eq_true (by kernel_rfl))
theorem told_reg0 (sz : Int) : ∃ k, vireolaw26_told.f k (n25_5 sz).f0 (n25_5 sz).f1 (n25_5 sz).f2 [(⟨#[115, 111, 99]⟩ : ByteArray), (⟨#[112, 108, 105, 99, 64, 99, 48, 48, 48, 48, 48, 48]⟩ : ByteArray)] ⟨#[114, 101, 103]⟩ (w64b 201326592 ++ w64b 4194304) = some true :=
  told_yes (n := n25_5 sz) (x := (rd_T32 (rd_T32 (n25_5 sz).f2 2).f2 1)) (data := (regP 201326592 4194304).f1) 20 (by kernel_rfl) (by kernel_rfl) (by kernel_rfl) (of_decide_eq_true (by kernel_rfl))
theorem told_reg1 (sz : Int) : ∃ k, vireolaw26_told.f k (n25_5 sz).f0 (n25_5 sz).f1 (n25_5 sz).f2 [(⟨#[115, 111, 99]⟩ : ByteArray), (⟨#[99, 108, 105, 110, 116, 64, 50, 48, 48, 48, 48, 48, 48]⟩ : ByteArray)] ⟨#[114, 101, 103]⟩ (w64b 33554432 ++ w64b 65536) = some true :=
  told_yes (n := n25_5 sz) (x := (rd_T32 (rd_T32 (n25_5 sz).f2 2).f2 0)) (data := (regP 33554432 65536).f1) 20 (by kernel_rfl) (by kernel_rfl) (by kernel_rfl) (of_decide_eq_true (by kernel_rfl))
theorem told_reg2 (sz : Int) : ∃ k, vireolaw26_told.f k (n25_5 sz).f0 (n25_5 sz).f1 (n25_5 sz).f2 [(⟨#[115, 111, 99]⟩ : ByteArray), (⟨#[118, 105, 114, 116, 105, 111, 64, 49, 48, 48, 48, 49, 48, 48, 48]⟩ : ByteArray)] ⟨#[114, 101, 103]⟩ (w64b 268439552 ++ w64b 4096) = some true :=
  told_yes (n := n25_5 sz) (x := (rd_T32 (rd_T32 (n25_5 sz).f2 2).f2 2)) (data := (regP 268439552 4096).f1) 20 (by kernel_rfl) (by kernel_rfl) (by kernel_rfl) (of_decide_eq_true (by kernel_rfl))
theorem told_reg3 (sz : Int) : ∃ k, vireolaw26_told.f k (n25_5 sz).f0 (n25_5 sz).f1 (n25_5 sz).f2 [(⟨#[115, 111, 99]⟩ : ByteArray), (⟨#[118, 105, 114, 116, 105, 111, 64, 49, 48, 48, 48, 50, 48, 48, 48]⟩ : ByteArray)] ⟨#[114, 101, 103]⟩ (w64b 268443648 ++ w64b 4096) = some true :=
  told_yes (n := n25_5 sz) (x := (rd_T32 (rd_T32 (n25_5 sz).f2 2).f2 3)) (data := (regP 268443648 4096).f1) 20 (by kernel_rfl) (by kernel_rfl) (by kernel_rfl) (of_decide_eq_true (by kernel_rfl))
theorem told_int2 (sz : Int) : ∃ k, vireolaw26_told.f k (n25_5 sz).f0 (n25_5 sz).f1 (n25_5 sz).f2 [(⟨#[115, 111, 99]⟩ : ByteArray), (⟨#[118, 105, 114, 116, 105, 111, 64, 49, 48, 48, 48, 49, 48, 48, 48]⟩ : ByteArray)] ⟨#[105, 110, 116, 101, 114, 114, 117, 112, 116, 115]⟩ (w32 1) = some true :=
  told_yes (n := n25_5 sz) (x := (rd_T32 (rd_T32 (n25_5 sz).f2 2).f2 2)) (data := ([(1 : Int)].flatMap w32)) 20 (by kernel_rfl) (by kernel_rfl) (by kernel_rfl) (of_decide_eq_true (by kernel_rfl))
theorem told_int3 (sz : Int) : ∃ k, vireolaw26_told.f k (n25_5 sz).f0 (n25_5 sz).f1 (n25_5 sz).f2 [(⟨#[115, 111, 99]⟩ : ByteArray), (⟨#[118, 105, 114, 116, 105, 111, 64, 49, 48, 48, 48, 50, 48, 48, 48]⟩ : ByteArray)] ⟨#[105, 110, 116, 101, 114, 114, 117, 112, 116, 115]⟩ (w32 2) = some true :=
  told_yes (n := n25_5 sz) (x := (rd_T32 (rd_T32 (n25_5 sz).f2 2).f2 3)) (data := ([(2 : Int)].flatMap w32)) 20 (by kernel_rfl) (by kernel_rfl) (by kernel_rfl) (of_decide_eq_true (by kernel_rfl))
theorem told_mmu (sz : Int) : ∃ k, vireolaw26_told.f k (n25_5 sz).f0 (n25_5 sz).f1 (n25_5 sz).f2 [(⟨#[99, 112, 117, 115]⟩ : ByteArray), (⟨#[99, 112, 117, 64, 48]⟩ : ByteArray)] ⟨#[109, 109, 117, 45, 116, 121, 112, 101]⟩ [114, 105, 115, 99, 118, 44, 115, 118, 51, 57, 0] = some true :=
  told_yes (n := n25_5 sz) (x := (rd_T32 (rd_T32 (n25_5 sz).f2 1).f2 0)) (data := (textsOf [(⟨#[114, 105, 115, 99, 118, 44, 115, 118, 51, 57]⟩ : ByteArray)])) 20 (by kernel_rfl) (by kernel_rfl) (by kernel_rfl) (of_decide_eq_true (by kernel_rfl))
end Go.Proofs.Ytmhlellhfepkkaa.H
