/- The statements' memory (vireolaw10.memory), walked by hand: words put into it, and its struct. -/
import Derived.Test.YtlhdildnekllhaaTb
import Derived.Test.YtlhdildnekllhaaLx
import Derived.Test.YtlhdildnekllhaaS2
import Derived.Test.YtlhdildnekllhaaTc
namespace Go.Proofs.Ytlhdildnekllhaa.PAl
open Go.RowKit Go.Proofs.YtlhdildnekllhaaW.PrintWords Go.Proofs.YtlhdildnekllhaaW.PrintLast
set_option linter.unusedVariables false
structure S72 where
  f0 : Int
  f1 : Int
def z72 : S72 := ⟨(0 : Int), (0 : Int)⟩
def k72 : Kd S72 := Kd.iso (Kd.pair (Kd.int .u64) (Kd.int .u64)) (fun x : S72 => (x.f0, x.f1))
theorem k72_open {w : World} {x : S72} {cs : List Value} (h : k72.K w x cs) : cs = [.int .u64 x.f0, .int .u64 x.f1] := by
  obtain ⟨_, _, rfl, rfl, rfl⟩ := h
  exact rfl
theorem k72_mk (w : World) (x : S72) : k72.K w x [.int .u64 x.f0, .int .u64 x.f1] := ⟨[.int .u64 x.f0], [.int .u64 x.f1], rfl, rfl, rfl⟩
def rd_T72 (xs : List S72) (i : Int) : S72 := xs.getD i.toNat z72
theorem at_T72 {w : World} {A : Option Addr} {n : Nat} {xs : List S72} (h : Kd.C k72 w A n xs) (i : Int) (h0 : 0 ≤ i) (h1 : i < n) : ∃ ad , A = some ad ∧ w.cell? (ad.add (i.toNat * 2)) = some (.int .u64 (rd_T72 xs i).f0) ∧ w.cell? ⟨(ad.add (i.toNat * 2)).block, (ad.add (i.toNat * 2)).off + 1, none⟩ = some (.int .u64 (rd_T72 xs i).f1) := by
  obtain ⟨ad, c, e, _, hK, hc0⟩ := Kd.C_get h z72 i h0 h1
  have hc : ∀ j u, c[j]? = some u → w.cell? (ad.add (i.toNat * 2 + j)) = some u := hc0
  obtain rfl := k72_open hK
  exact ⟨ad, e, hc 0 _ rfl, by rw [← add_field _ _ 1 (by omega)]; exact hc 1 _ rfl⟩
end Go.Proofs.Ytlhdildnekllhaa.PAl
namespace Go.Proofs.Ytlhdildnekllhaa.H
open Go.RowKit Go.Proofs.YtlhdildnekllhaaW.PrintWords Go.Proofs.YtlhdildnekllhaaW.PrintLast Go.Proofs.Ytlhdildnekllhaa.PAl Go.Proofs.Ytlhdildnekllhaa.Pure Go.Proofs.Ytlhdildnekllhaa.Vw
set_option linter.unusedVariables false
set_option linter.unusedSimpArgs false
abbrev PUT : TypeId := 72
/-- 'return nil, w'. -/
theorem nil_out {P : Program} {id : Nat} {Q : Exit → Act → World → Prop} {a : Act} {w : World} {o0 o1 o2 : Oper} (hm : P.follows .mixedOrders = true)
    (n0 : o0.guard = none) (n1 : o1.guard = none) (n2 : o2.guard = none)
    (r0 : Region.ready .any #[o0, o1, o2] #[false, false, false] = [0, 1])
    (r1' : Region.ready .any #[o0, o1, o2] #[false, true, false] = [0])
    (r1 : Region.ready .any #[o0, o1, o2] #[true, false, false] = [1])
    (r2 : Region.ready .any #[o0, o1, o2] #[true, true, false] = [2])
    (r3 : Region.ready .any #[o0, o1, o2] #[true, true, true] = [])
    {T : TypeId} {x0 x1 x2 y2 : Operand} {D : TypeDesc} (e0 : o0.op = .load T x0) (e1 : o1.op = .assign x1) (e2 : o2.op = .store T x2 y2) (d2 : o2.dst = none)
    (u0 : P.underlying T = some D) (q0 : (match D with | .struct _ | .array _ _ => true | _ => false) = true)
    (g h : Nat) (cs zs : Array Value) (i0 : (P.info? T).map (·.size) = some cs.size) (s0 : zs.size = cs.size) (v0 : cs.all (·.oneCell') = true)
    (b0 : w.heap[g]? = some (.cells cs T (0, 0))) (b1 : w.heap[h]? = some (.cells zs T (0, 0)))
    (p0 : a.eval x0 = .pointer (some ⟨g, 0, none⟩))
    (p0' : (a.put o1.dst (a.eval x1)).eval x0 = .pointer (some ⟨g, 0, none⟩))
    (comm : (a.put o1.dst (a.eval x1)).put o0.dst (.agg cs) = (a.put o0.dst (.agg cs)).put o1.dst ((a.put o0.dst (.agg cs)).eval x1))
    (p2 : ((a.put o0.dst (.agg cs)).put o1.dst ((a.put o0.dst (.agg cs)).eval x1)).eval x2 = .pointer (some ⟨h, 0, none⟩))
    (p3 : ((a.put o0.dst (.agg cs)).put o1.dst ((a.put o0.dst (.agg cs)).eval x1)).eval y2 = .agg cs)
    (k : ∀ w2, w2.heap[h]? = some (.cells cs T (0, 0)) → Kp w w2 (fun i => i = h) → Q .normal ((a.put o0.dst (.agg cs)).put o1.dst ((a.put o0.dst (.agg cs)).eval x1)) w2) :
    (Code.region id #[o0, o1, o2] true).wp P Q a w := by
  refine wp_region_any hm ?_
  show wpAny P .any #[o0, o1, o2] Q 3 #[false, false, false] a w.drew
  have kd : Kp w w.drew (fun i => i = h) := (Kp.refl _ _).drew
  have last : wpAny P .any #[o0, o1, o2] Q 1 #[true, true, false] ((a.put o0.dst (.agg cs)).put o1.dst ((a.put o0.dst (.agg cs)).eval x1)) w.drew :=
    any_1 r2 rfl n2 (wp_st e2 d2 h cs zs T p2 p3 b1 i0 s0 v0 fun w2 t k2 => wpAny_done r3 (k w2 t (kd.trans k2)) _)
  refine any_2 r0 rfl n0 rfl n1 ?_ ?_
  · refine wp_ld e0 g p0 T cs D b0 u0 q0 i0 ?_
    exact any_1 r1 rfl n1 (wp_as e1 last)
  · refine wp_as e1 ?_
    refine any_1 r1' rfl n0 (wp_ld e0 g p0' T cs D b0 u0 q0 i0 ?_)
    show wpAny P .any #[o0, o1, o2] Q 1 #[true, true, false] ((a.put o1.dst (a.eval x1)).put o0.dst (.agg cs)) w.drew
    rw [comm]
    exact last
theorem results_tc {P : Program} {fn : Func} {p0 p1 : Tmp} {T1 : TypeId} (h : fn.results = #[.tmp p0, .cell p1 T1]) (tmps : Array Value) (w : World) (g1 : Nat) (c1 : Array Value) (v : Value) (d1 : TypeDesc)
    (h0 : tmps.getD p0 undef = v) (h1 : tmps.getD p1 undef = .pointer (some ⟨g1, 0, none⟩)) (b1 : w.heap[g1]? = some (.cells c1 T1 (0, 0)))
    (u1 : P.underlying T1 = some d1) (q1 : (match d1 with | .struct _ | .array _ _ => true | _ => false) = true) (i1 : (P.info? T1).map (·.size) = some c1.size) :
    (results fn tmps).run P w = .ok (.tuple #[v, .agg c1]) w := by
  have h0' : tmps[p0]?.getD undef = v := by simpa using h0
  have h1' : tmps[p1]?.getD undef = .pointer (some ⟨g1, 0, none⟩) := by simpa using h1
  simp [results, h, h0', h1', asAddr, run_loadVar_row w g1 T1 T1 c1 (0, 0) d1 b1 u1 q1 i1]
abbrev RT2 : TypeId := 30
abbrev ramC (u : Value) : Array Value := #[.int .u64 32768, u]
theorem infoM : (Try.prog.info? RT2).map (·.size) = some 2 := by kernel_rfl
theorem zeroM (w : World) : (zeroValue RT2).run Try.prog w = .ok (.agg #[.int .u64 0, .slice none 0 0]) w := by kernel_rfl
theorem al32 : word_Aligned.f 32768 4096 = some true := by decide +kernel
set_option maxHeartbeats 8000000 in
set_option maxRecDepth 100000 in
theorem memory_no (A : Option Addr) (c : Nat) (xs : List S72) (w : World) (hn : 60 < xs.length) :
    Calls Try.prog 9 #[.slice A xs.length c] w fun e w' => e = .returned (.tuple #[.pointer none, .agg (ramC (.slice none 0 0))]) ∧ KpN w w' := by
  have NW : Aside0 (∀ W, Calls Try.prog 29 #[.int .u64 32768] W fun e w' => ∃ g B, e = .returned (.tuple #[.pointer (some ⟨g, 0, none⟩), .int .i64 0]) ∧ Rm w' g B 0 32768 (fun _ => none) (fun _ => 0) ∧ KpN W w' ∧ W.heap.size ≤ g ∧ W.heap.size ≤ B) := ⟨fun W => new_m 32768 W (by decide) (by decide) al32⟩
  have t4 : decide (60 < xs.length) = true := decide_eq_true hn
  have t5 : decide (60 < (xs.length : Int)) = true := decide_eq_true (by omega)
  clear hn
  go_enter Try.func9, Try.ntmps9
  go_wp2_with (first
    | ((with_reducible refine gate_dst (N := 3) rfl ?_); refine al_ev rfl rfl (N := 3) rfl _ (zeroM _) ?_; intro r hg_r w2 hb_r hk_r; have Hg_r := Aside0.mk hg_r; clear hg_r)
    | ((with_reducible refine gate_dst (N := 4) rfl ?_); refine al_ev rfl rfl (N := 4) rfl _ (zeroM _) ?_; intro q hg_q w3 hb_q hk_q; have Hg_q := Aside0.mk hg_q; clear hg_q)
    | ((with_reducible refine gate_store (t := 30) (p := 4) rfl ?_); refine st_ev rfl rfl rfl q (ramC (.slice none 0 0)) _ _ rfl rfl (hb_q) infoM rfl ((by simp [Value.oneCell'])) ?_; intro w4 hs_w4 ks_w4)
    | (go_at_call 29; refine (NW.out _).mono ?_; rintro e w1 ⟨g, B, rfl, hR1, hk1, hg, hB⟩; have hg' := Aside0.mk hg; have hB' := Aside0.mk hB; clear hg hB))
  have Q3 : Bk w4 q (ramC (.slice none 0 0)) RT2 := ⟨hs_w4⟩
  have R2 : Bk w2 r #[.int .u64 0, .slice none 0 0] RT2 := ⟨hb_r⟩
  have hrq : r ≠ q := by have := Hg_q.out; have := blk_lt hb_r; omega
  have R4 := (R2.kp hk_q (fun h => h)).kp ks_w4 hrq
  have K4 : KpN w w4 := (hk_r.trans hk_q).then ks_w4 fun i hi (e : i = q) => by have := Hg_q.out; have := hk_r.size; omega
  refine nil_out (by kernel_rfl) rfl rfl rfl (by kernel_rfl) (by kernel_rfl) (by kernel_rfl) (by kernel_rfl) (by kernel_rfl) rfl rfl rfl rfl Try.underlying30 rfl q r (ramC (.slice none 0 0)) #[.int .u64 0, .slice none 0 0] infoM rfl (by simp [Value.oneCell']) (Q3.kp hk1 (fun h => h)).blk (R4.kp hk1 (fun h => h)).blk rfl rfl rfl rfl rfl ?_
  intro w5 h5 k5
  go_wp2
  refine bodyPost_ret (results_tc rfl _ _ r (ramC (.slice none 0 0)) (.pointer none) _ rfl rfl h5 Try.underlying30 rfl infoM) rfl ?_
  exact ⟨rfl, (K4.trans hk1).then k5 fun i hi (e : i = r) => by have := Hg_r.out; omega⟩
end Go.Proofs.Ytlhdildnekllhaa.H
