/- What the statements over registers begin with, walked by hand, and its plain laws, for every start. -/
import Derived.Test.YtnknfepbekaobaaTa
import Derived.Laws.StructEq
/- Words for regions that draw their order, walked order by order by hand. -/
namespace Go.Proofs.Ytnknfepbekaobaa.H
open Go.RowKit Go.Proofs.YtnknfepbekaobaaW.PrintWords Go.Proofs.YtnknfepbekaobaaW.PrintLast Go.Proofs.Ytnknfepbekaobaa.PAl Go.Proofs.Ytnknfepbekaobaa.Pure Go.Proofs.Ytnknfepbekaobaa.Vw
set_option linter.unusedVariables false
set_option linter.unusedSimpArgs false
section
variable {P : Program} {md : Region.Mode} {ops : Array Oper} {Q : Exit → Act → World → Prop}
theorem wanted_none {o : Oper} (hg : o.guard = none) (y : _) : Region.wanted o y = true := by unfold Region.wanted; rw [hg]
theorem op_in {i : Nat} {o : Oper} {a : Act} {w : World} {K : Act → World → Prop} (ho : ops[i]? = some o) (hg : o.guard = none) (h : o.wp P a w K Q) : wpOp P ops Q i K a w := by
  unfold wpOp; rw [ho]; dsimp only; rw [if_pos (wanted_none hg _)]; exact .inl h
theorem any_1 {i : Nat} {o : Oper} {fuel : Nat} {listed : Array Bool} {a : Act} {w : World} (hr : Region.ready md ops listed = [i]) (ho : ops[i]? = some o) (hg : o.guard = none)
    (h : o.wp P a w (wpAny P md ops Q fuel (listed.setIfInBounds i true)) Q) : wpAny P md ops Q (fuel + 1) listed a w :=
  wpAny_all hr (by simp) fun k hk => by
    have : k = i := by simpa using hk
    subst this; exact op_in ho hg h
theorem any_2 {i j : Nat} {o o' : Oper} {fuel : Nat} {listed : Array Bool} {a : Act} {w : World} (hr : Region.ready md ops listed = [i, j]) (ho : ops[i]? = some o) (hg : o.guard = none) (ho' : ops[j]? = some o') (hg' : o'.guard = none)
    (h : o.wp P a w (wpAny P md ops Q fuel (listed.setIfInBounds i true)) Q) (h' : o'.wp P a w (wpAny P md ops Q fuel (listed.setIfInBounds j true)) Q) : wpAny P md ops Q (fuel + 1) listed a w :=
  wpAny_all hr (by simp) fun k hk => by
    have : k = i ∨ k = j := by simpa using hk
    rcases this with rfl | rfl
    · exact op_in ho hg h
    · exact op_in ho' hg' h'
theorem wp_ld {o : Oper} {a : Act} {w : World} {K : Act → World → Prop} {ty : TypeId} {x : Operand} (ho : o.op = .load ty x) (g : Nat) (hx : a.eval x = .pointer (some ⟨g, 0, none⟩)) (t : TypeId) (cs : Array Value) (d : TypeDesc)
    (hg : w.heap[g]? = some (.cells cs t (0, 0))) (hu : P.underlying ty = some d) (hd : (match d with | .struct _ | .array _ _ => true | _ => false) = true) (hi : (P.info? ty).map (·.size) = some cs.size)
    (h : K (a.put o.dst (.agg cs)) w) : o.wp P a w K Q := wp_load_row ty x ho g hx t cs (0, 0) d hg hu hd hi h
theorem wp_st {o : Oper} {a : Act} {w : World} {K : Act → World → Prop} {ty : TypeId} {x y : Operand} (ho : o.op = .store ty x y) (hN : o.dst = none) (g : Nat) (cs old : Array Value) (t : TypeId)
    (hx : a.eval x = .pointer (some ⟨g, 0, none⟩)) (hy : a.eval y = .agg cs) (hg : w.heap[g]? = some (.cells old t (0, 0))) (hi : (P.info? ty).map (·.size) = some cs.size)
    (hold : old.size = cs.size) (h1 : cs.all (·.oneCell') = true) (h : ∀ w1, w1.heap[g]? = some (.cells cs t (0, 0)) → Kp w w1 (fun i => i = g) → K a w1) : o.wp P a w K Q :=
  wp_store_row ty x y ho g cs hx hy t old hg hi hold h1 (by rw [hN]; exact h _ (setRow_blk hg) ((Kp.refl _ _).setRow g cs (.inl rfl)))
theorem wp_as {o : Oper} {a : Act} {w : World} {K : Act → World → Prop} {x : Operand} (ho : o.op = .assign x) (h : K (a.put o.dst (a.eval x)) w) : o.wp P a w K Q := by
  unfold Oper.wp execOp
  simp only [ho]
  exact h
/-- Two variables handed back: 'return f, w, true'. -/
theorem two_out {P : Program} {id : Nat} {Q : Exit → Act → World → Prop} {a : Act} {w : World} {o0 o1 o2 o3 o4 : Oper} (hm : P.follows .mixedOrders = true)
    (n0 : o0.guard = none) (n1 : o1.guard = none) (n2 : o2.guard = none) (n3 : o3.guard = none) (n4 : o4.guard = none)
    (r0 : Region.ready .any #[o0, o1, o2, o3, o4] #[false, false, false, false, false] = [0, 1])
    (r1 : Region.ready .any #[o0, o1, o2, o3, o4] #[true, false, false, false, false] = [1, 2])
    (r2 : Region.ready .any #[o0, o1, o2, o3, o4] #[false, true, false, false, false] = [0])
    (r3 : Region.ready .any #[o0, o1, o2, o3, o4] #[true, true, false, false, false] = [2])
    (r4 : Region.ready .any #[o0, o1, o2, o3, o4] #[true, false, true, false, false] = [1])
    (r5 : Region.ready .any #[o0, o1, o2, o3, o4] #[true, true, true, false, false] = [3])
    (r6 : Region.ready .any #[o0, o1, o2, o3, o4] #[true, true, true, true, false] = [4])
    (r7 : Region.ready .any #[o0, o1, o2, o3, o4] #[true, true, true, true, true] = [])
    {T0 T1 : TypeId} {x0 x1 x2 x3 y2 y3 x4 : Operand} {D0 D1 : TypeDesc}
    (e0 : o0.op = .load T0 x0) (e1 : o1.op = .load T1 x1) (e2 : o2.op = .store T0 x2 y2) (e3 : o3.op = .store T1 x3 y3) (e4 : o4.op = .assign x4) (d2 : o2.dst = none) (d3 : o3.dst = none)
    (u0 : P.underlying T0 = some D0) (u1 : P.underlying T1 = some D1) (q0 : (match D0 with | .struct _ | .array _ _ => true | _ => false) = true) (q1 : (match D1 with | .struct _ | .array _ _ => true | _ => false) = true)
    (f0 f1 g0 g1 : Nat) (c0 c1 z0 z1 : Array Value)
    (i0 : (P.info? T0).map (·.size) = some c0.size) (i1 : (P.info? T1).map (·.size) = some c1.size) (s0 : z0.size = c0.size) (s1 : z1.size = c1.size) (v0 : c0.all (·.oneCell') = true) (v1 : c1.all (·.oneCell') = true)
    (b0 : w.heap[f0]? = some (.cells c0 T0 (0, 0))) (b1 : w.heap[f1]? = some (.cells c1 T1 (0, 0))) (b2 : w.heap[g0]? = some (.cells z0 T0 (0, 0))) (b3 : w.heap[g1]? = some (.cells z1 T1 (0, 0))) (ne1 : f1 ≠ g0) (ne2 : g1 ≠ g0)
    (p0 : a.eval x0 = .pointer (some ⟨f0, 0, none⟩)) (p1 : (a.put o0.dst (.agg c0)).eval x1 = .pointer (some ⟨f1, 0, none⟩)) (p1' : a.eval x1 = .pointer (some ⟨f1, 0, none⟩)) (p0' : (a.put o1.dst (.agg c1)).eval x0 = .pointer (some ⟨f0, 0, none⟩))
    (comm : (a.put o1.dst (.agg c1)).put o0.dst (.agg c0) = (a.put o0.dst (.agg c0)).put o1.dst (.agg c1))
    (p2 : (a.put o0.dst (.agg c0)).eval x2 = .pointer (some ⟨g0, 0, none⟩)) (p3 : (a.put o0.dst (.agg c0)).eval y2 = .agg c0)
    (p4 : ((a.put o0.dst (.agg c0)).put o1.dst (.agg c1)).eval x2 = .pointer (some ⟨g0, 0, none⟩)) (p5 : ((a.put o0.dst (.agg c0)).put o1.dst (.agg c1)).eval y2 = .agg c0)
    (p6 : ((a.put o0.dst (.agg c0)).put o1.dst (.agg c1)).eval x3 = .pointer (some ⟨g1, 0, none⟩)) (p7 : ((a.put o0.dst (.agg c0)).put o1.dst (.agg c1)).eval y3 = .agg c1)
    (h : ∀ w2, w2.heap[g0]? = some (.cells c0 T0 (0, 0)) → w2.heap[g1]? = some (.cells c1 T1 (0, 0)) → Kp w w2 (fun i => i = g0 ∨ i = g1) →
      Q .normal (((a.put o0.dst (.agg c0)).put o1.dst (.agg c1)).put o4.dst (((a.put o0.dst (.agg c0)).put o1.dst (.agg c1)).eval x4)) w2) :
    (Code.region id #[o0, o1, o2, o3, o4] true).wp P Q a w := by
  have last : ∀ w1, w1.heap[g0]? = some (.cells c0 T0 (0, 0)) → w1.heap[g1]? = some (.cells z1 T1 (0, 0)) → Kp w w1 (fun i => i = g0) →
      wpAny P .any #[o0, o1, o2, o3, o4] Q 2 #[true, true, true, false, false] ((a.put o0.dst (.agg c0)).put o1.dst (.agg c1)) w1 := fun w1 t0 t1 k1 =>
    any_1 r5 rfl n3 (wp_st e3 d3 g1 c1 z1 T1 p6 p7 t1 i1 s1 v1 fun w2 t2 k2 =>
      any_1 r6 rfl n4 (wp_as e4 (wpAny_done r7 (h w2 ((k2.block g0 (blk_lt t0) (fun e : g0 = g1 => ne2 e.symm)).trans t0) t2 ((k1.mono fun _ _ e => .inl e).then k2 fun _ _ e => .inr e)) _)))
  refine wp_region_any hm ?_
  show wpAny P .any #[o0, o1, o2, o3, o4] Q 5 #[false, false, false, false, false] a w.drew
  have kd : Kp w w.drew (fun i => i = g0) := (Kp.refl _ _).drew
  refine any_2 r0 rfl n0 rfl n1 ?_ ?_
  · refine wp_ld e0 f0 p0 T0 c0 D0 b0 u0 q0 i0 ?_
    refine any_2 r1 rfl n1 rfl n2 ?_ ?_
    · refine wp_ld e1 f1 p1 T1 c1 D1 b1 u1 q1 i1 ?_
      refine any_1 r3 rfl n2 (wp_st e2 d2 g0 c0 z0 T0 p4 p5 b2 i0 s0 v0 fun w1 t0 k1 => ?_)
      exact last w1 t0 ((k1.block g1 (blk_lt b3) ne2).trans b3) (kd.trans k1)
    · refine wp_st e2 d2 g0 c0 z0 T0 p2 p3 b2 i0 s0 v0 fun w1 t0 k1 => ?_
      refine any_1 r4 rfl n1 (wp_ld e1 f1 p1 T1 c1 D1 ((k1.block f1 (blk_lt b1) ne1).trans b1) u1 q1 i1 ?_)
      exact last w1 t0 ((k1.block g1 (blk_lt b3) ne2).trans b3) (kd.trans k1)
  · refine wp_ld e1 f1 p1' T1 c1 D1 b1 u1 q1 i1 ?_
    refine any_1 r2 rfl n0 (wp_ld e0 f0 p0' T0 c0 D0 b0 u0 q0 i0 ?_)
    show wpAny P .any #[o0, o1, o2, o3, o4] Q 3 #[true, true, false, false, false] ((a.put o1.dst (.agg c1)).put o0.dst (.agg c0)) w.drew
    rw [comm]
    refine any_1 r3 rfl n2 (wp_st e2 d2 g0 c0 z0 T0 p4 p5 b2 i0 s0 v0 fun w1 t0 k1 => ?_)
    exact last w1 t0 ((k1.block g1 (blk_lt b3) ne2).trans b3) (kd.trans k1)
theorem results_cct {P : Program} {fn : Func} {p0 p1 p2 : Tmp} {T0 T1 : TypeId} (h : fn.results = #[.cell p0 T0, .cell p1 T1, .tmp p2]) (tmps : Array Value) (w : World) (g0 g1 : Nat) (c0 c1 : Array Value) (v : Value) (d0 d1 : TypeDesc)
    (h0 : tmps.getD p0 undef = .pointer (some ⟨g0, 0, none⟩)) (h1 : tmps.getD p1 undef = .pointer (some ⟨g1, 0, none⟩)) (h2 : tmps.getD p2 undef = v)
    (b0 : w.heap[g0]? = some (.cells c0 T0 (0, 0))) (b1 : w.heap[g1]? = some (.cells c1 T1 (0, 0)))
    (u0 : P.underlying T0 = some d0) (u1 : P.underlying T1 = some d1) (q0 : (match d0 with | .struct _ | .array _ _ => true | _ => false) = true) (q1 : (match d1 with | .struct _ | .array _ _ => true | _ => false) = true)
    (i0 : (P.info? T0).map (·.size) = some c0.size) (i1 : (P.info? T1).map (·.size) = some c1.size) :
    (results fn tmps).run P w = .ok (.tuple #[.agg c0, .agg c1, v]) w := by
  have h0' : tmps[p0]?.getD undef = .pointer (some ⟨g0, 0, none⟩) := by simpa using h0
  have h1' : tmps[p1]?.getD undef = .pointer (some ⟨g1, 0, none⟩) := by simpa using h1
  have h2' : tmps[p2]?.getD undef = v := by simpa using h2
  simp [results, h, h0', h1', h2', asAddr, run_loadVar_row w g0 T0 T0 c0 (0, 0) d0 b0 u0 q0 i0, run_loadVar_row w g1 T1 T1 c1 (0, 0) d1 b1 u1 q1 i1]
theorem wpStill_ld {P : Program} {ops : Array Oper} {w : World} {Q : Act → Prop} {a : Act} {o : Oper} {rest : List Oper} (hgd : o.guard = none) {ty : TypeId} {x : Operand} (ho : o.op = .load ty x) (g : Nat) (hx : a.eval x = .pointer (some ⟨g, 0, none⟩)) (t : TypeId) (cs : Array Value) (d : TypeDesc)
    (hg : w.heap[g]? = some (.cells cs t (0, 0))) (hu : P.underlying ty = some d) (hd : (match d with | .struct _ | .array _ _ => true | _ => false) = true) (hi : (P.info? ty).map (·.size) = some cs.size)
    (h : wpStill P ops w Q rest (a.put o.dst (.agg cs))) : wpStill P ops w Q (o :: rest) a := by
  unfold wpStill
  rw [if_pos (wanted_none hgd _)]
  unfold Oper.still execOp
  simp only [ho, hx, Instr.loadAt, Instr.sureAddr, Sem.run_bind, Sem.run_pure, Result.andThen_ok, run_loadVar_row w g t ty cs (0, 0) d hg hu hd hi]
  exact ⟨rfl, h⟩
end
end Go.Proofs.Ytnknfepbekaobaa.H
/- What the statements of the registers begin with (vireolaw08.Begun), walked by hand. -/
namespace Go.Proofs.Ytnknfepbekaobaa.H
open Go.RowKit Go.Proofs.YtnknfepbekaobaaW.PrintWords Go.Proofs.YtnknfepbekaobaaW.PrintLast Go.Proofs.Ytnknfepbekaobaa.PAl Go.Proofs.Ytnknfepbekaobaa.Pure Go.Proofs.Ytnknfepbekaobaa.Vw
set_option linter.unusedVariables false
set_option linter.unusedSimpArgs false
theorem getD_at {α : Type} (l : List α) (d : α) (k : Nat) (h : k < l.length) : l.getD k d = l[k] := by
  rw [List.getD_eq_getElem?_getD, List.getElem?_eq_getElem h]; rfl
abbrev WR := S68
/-- The file behind the first k writes; likewise the document's. -/
def foldF (xs : List WR) : Nat → VS
  | 0 => vs0
  | k + 1 => writeW (foldF xs k) (xs.getD k z68).f0 (xs.getD k z68).f1.toNat
def foldR (xs : List WR) : Nat → VS
  | 0 => vs0
  | k + 1 => rwriteW (foldR xs k) (xs.getD k z68).f0 (xs.getD k z68).f1.toNat
def wrOk (xs : List WR) : Prop := ∀ y ∈ xs, 0 ≤ y.f1 ∧ y.f1 < 18446744073709551616
theorem wrOk_at {xs : List WR} (h : wrOk xs) (k : Nat) : (xs.getD k z68).f1 = (((xs.getD k z68).f1.toNat : Nat) : Int) ∧ U (xs.getD k z68).f1.toNat := by
  by_cases hk : k < xs.length
  · rw [getD_at xs _ k hk]
    have := h _ (List.getElem_mem hk)
    exact ⟨by omega, ⟨by omega⟩⟩
  · rw [List.getD_eq_getElem?_getD, List.getElem?_eq_none (by omega)]
    exact ⟨rfl, ⟨by decide⟩⟩
theorem foldF_ok {xs : List WR} (h : wrOk xs) : ∀ k, (foldF xs k).ok
  | 0 => vs0_ok
  | k + 1 => writeW_ok (foldF_ok h k) _ (wrOk_at h k).2
theorem foldR_ok {xs : List WR} (h : wrOk xs) : ∀ k, (foldR xs k).ok
  | 0 => vs0_ok
  | k + 1 => rwriteW_ok (foldR_ok h k) _ (wrOk_at h k).2
abbrev startC (m : Int) (A : Option Addr) (n c : Nat) (l : Int) : Array Value := #[.int .i64 m, .slice A n c, .int .u64 l]
def bgF (m : Int) (xs : List WR) (l : Nat) : VS := ((foldF xs xs.length).set 6 (l &&& 2696)).mode m
def bgR (m : Int) (xs : List WR) (l : Nat) : VS := ((foldR xs xs.length).set 3 (l &&& 2696)).mode m
def bgOk (m : Int) (n : Nat) : Prop := 0 ≤ m ∧ m ≤ 3 ∧ m ≠ 2 ∧ n ≤ 40
structure Lts (w : World) (g r q f p : Nat) : Prop where
  a : w.heap.size ≤ g
  b : g < r
  c : r < q
  d : q < f
  e : f < p
theorem begun_at {w w1 w2 w3 w4 w5 w6 w7 w8 : World} {g r q f p : Nat} {cs : Array Value} {T : TypeId} {z : VS} (e1 : g = w.heap.size) (e2 : r = w1.heap.size) (e3 : q = w2.heap.size) (e4 : f = w4.heap.size) (e5 : p = w6.heap.size)
    (b1 : w1.heap[g]? = some (.cells cs T (0, 0))) (b2 : w2.heap[r]? = some (.cells z.cells FT (0, 0))) (b3 : w3.heap[q]? = some (.cells z.cells RT (0, 0))) (b6 : w6.heap[f]? = some (.cells vs0.cells FT (0, 0))) (b8 : w8.heap[p]? = some (.cells vs0.cells RT (0, 0)))
    (k1 : Kp w w1 (fun _ => False)) (k2 : Kp w1 w2 (fun _ => False)) (k3 : Kp w2 w3 (fun _ => False)) (k4 : Kp w3 w4 (fun _ => False)) (k5 : Kp w4 w5 (fun _ => False)) (k6 : Kp w5 w6 (fun i => i = f)) (k7 : Kp w6 w7 (fun _ => False)) (k8 : Kp w7 w8 (fun i => i = p)) :
    Bk w8 g cs T ∧ St FT w8 f vs0 ∧ St RT w8 p vs0 ∧ St FT w8 r z ∧ St RT w8 q z ∧ Lts w g r q f p ∧ KpN w w8 := by
  have l1 := blk_lt b1
  have l2 := blk_lt b2
  have l3 := blk_lt b3
  have l6 := blk_lt b6
  have s4 := k4.size
  have s5 := k5.size
  have s6 := k6.size
  have s1 := k1.size
  have s2 := k2.size
  have s3 := k3.size
  have k38 : KpN w3 w8 := by
    have k36 : KpN w3 w6 := (k4.trans k5).then k6 fun i hi (e : i = f) => by omega
    exact (k36.trans k7).then k8 fun i hi (e : i = p) => by omega
  have k68 : KpN w6 w8 := k7.then k8 fun i hi (e : i = p) => by omega
  refine ⟨(Bk.mk b1).kp ((k2.trans k3).trans k38) (fun h => h), (St.mk b6).kp k68 (fun h => h), ⟨b8⟩, (St.mk b2).kp (k3.trans k38) (fun h => h), (St.mk b3).kp k38 (fun h => h), ⟨by omega, by omega, by omega, by omega, by omega⟩, ((k1.trans k2).trans k3).trans k38⟩
def vz : VS := VS.mk 0 fun _ => 0
set_option maxHeartbeats 8000000 in
set_option maxRecDepth 100000 in
theorem begun_no (m : Int) (A : Option Addr) (c : Nat) (l : Int) (xs : List WR) (w : World) (hb : ¬ bgOk m xs.length) :
    Calls Try.prog 10 #[.agg (startC m A xs.length c l)] w fun e w' => e = .returned (.tuple #[.agg vs0.cells, .agg vs0.cells, .bool false]) ∧ KpN w w' := by
  have hcase : (decide (m < 0) = true) ∨ (decide (m < 0) = false ∧ decide (3 < m) = true) ∨ (decide (m < 0) = false ∧ decide (3 < m) = false ∧ (m == 2) = true) ∨ (decide (m < 0) = false ∧ decide (3 < m) = false ∧ (m == 2) = false ∧ decide (40 < xs.length) = true ∧ decide (40 < (xs.length : Int)) = true) := by
    by_cases h1 : m < 0
    · exact .inl (decide_eq_true h1)
    by_cases h2 : 3 < m
    · exact .inr (.inl ⟨decide_eq_false h1, decide_eq_true h2⟩)
    by_cases h3 : m = 2
    · exact .inr (.inr (.inl ⟨decide_eq_false h1, decide_eq_false h2, beq_iff_eq.2 h3⟩))
    · have : ¬ xs.length ≤ 40 := fun h => hb ⟨by omega, by omega, h3, h⟩
      exact .inr (.inr (.inr ⟨decide_eq_false h1, decide_eq_false h2, beq_eq_false_iff_ne.2 h3, decide_eq_true (by omega), decide_eq_true (by omega)⟩))
  clear hb
  rcases hcase with t1 | ⟨t1, t2⟩ | ⟨t1, t2, t3⟩ | ⟨t1, t2, t3, t4, t5⟩
  all_goals
    go_enter Try.func10, Try.ntmps10
    go_wp2_with (first
      | ((with_reducible refine gate_dst (N := 1) rfl ?_); refine bx_ev rfl rfl (N := 1) rfl (startC m A xs.length c l) rfl ?_; intro g hg_g w1 hb_g hk_g; have Hg_g := Aside0.mk hg_g; clear hg_g)
      | ((with_reducible refine gate_dst (N := 2) rfl ?_); refine al_ev rfl rfl (N := 2) rfl _ (zeroF _) ?_; intro r hg_r w2 hb_r hk_r; have Hg_r := Aside0.mk hg_r; clear hg_r)
      | ((with_reducible refine gate_dst (N := 3) rfl ?_); refine al_ev rfl rfl (N := 3) rfl _ (zeroR _) ?_; intro q hg_q w3 hb_q hk_q; have Hg_q := Aside0.mk hg_q; clear hg_q)
      | (go_at_call 32; refine (begin_c _).mono ?_; rintro e w4 ⟨rfl, hk4⟩)
      | ((with_reducible refine gate_dst (N := 5) rfl ?_); refine al_ev rfl rfl (N := 5) rfl _ (zeroF _) ?_; intro f hg_f w5 hb_f hk_f; have Hg_f := Aside0.mk hg_f; clear hg_f)
      | ((with_reducible refine gate_store (t := 31) (p := 5) rfl ?_); refine st_ev rfl rfl rfl f (vs0.cells) _ _ rfl rfl (hb_f) infoF rfl (VS.one _) ?_; intro w6 hs_w6 ks_w6)
      | ((with_reducible refine gate_dst (N := 6) rfl ?_); refine al_ev rfl rfl (N := 6) rfl _ (zeroR _) ?_; intro p hg_p w7 hb_p hk_p; have Hg_p := Aside0.mk hg_p; clear hg_p)
      | (((with_reducible refine gate_store (t := 34) (p := 6) rfl ?_); refine st_ev rfl rfl rfl p (vs0.cells) _ _ rfl rfl (hb_p) infoR rfl (VS.one _) ?_; intro w8 hs_w8 ks_w8); obtain ⟨hG, hF, hP, hR, hQ, hlt, K8⟩ := begun_at (Hg_g.out) (Hg_r.out) (Hg_q.out) (Hg_f.out) (Hg_p.out) hb_g hb_r hb_q hs_w6 hs_w8 hk_g hk_r hk_q hk4 hk_f ks_w6 hk_p ks_w8; clear hb_g hb_r hb_q hs_w6 hs_w8 hk_g hk_r hk_q hk4 hk_f ks_w6 hk_p ks_w8 hb_f hb_p Hg_g Hg_r Hg_q Hg_f Hg_p; have c0 := hG.c 0; have c1 := hG.c 1; have c2 := hG.c 2; rw [show (startC m A xs.length c l)[0]? = some (.int .i64 m) from rfl] at c0; rw [show (startC m A xs.length c l)[1]? = some (.slice A xs.length c) from rfl] at c1; rw [show (startC m A xs.length c l)[2]? = some (.int .u64 l) from rfl] at c2))
    refine two_out (by kernel_rfl) rfl rfl rfl rfl rfl (by kernel_rfl) (by kernel_rfl) (by kernel_rfl) (by kernel_rfl) (by kernel_rfl) (by kernel_rfl) (by kernel_rfl) (by kernel_rfl) rfl rfl rfl rfl rfl rfl rfl Try.underlying31 Try.underlying34 rfl rfl f p r q vs0.cells vs0.cells (VS.mk 0 fun _ => 0).cells (VS.mk 0 fun _ => 0).cells infoF infoR rfl rfl (VS.one _) (VS.one _) hF.blk hP.blk hR.blk hQ.blk (by have := hlt.b; have := hlt.c; have := hlt.d; have := hlt.e; omega) (by have := hlt.c; omega) rfl rfl rfl rfl rfl rfl rfl rfl rfl rfl rfl ?_
    intro w9 h9 h9b k9
    go_wp2
    refine bodyPost_ret (results_cct rfl _ _ r q vs0.cells vs0.cells (.bool false) _ _ rfl rfl rfl h9 h9b Try.underlying31 Try.underlying34 rfl rfl infoF infoR) rfl ?_
    exact ⟨rfl, K8.then k9 fun i hi (e : i = r ∨ i = q) => by have := hlt.a; have := hlt.b; have := hlt.c; omega⟩
end Go.Proofs.Ytnknfepbekaobaa.H
/- What the statements of the registers begin with (vireolaw08.Begun), walked by hand: where it is tried. -/
namespace Go.Proofs.Ytnknfepbekaobaa.H
open Go.RowKit Go.Proofs.YtnknfepbekaobaaW.PrintWords Go.Proofs.YtnknfepbekaobaaW.PrintLast Go.Proofs.Ytnknfepbekaobaa.PAl Go.Proofs.Ytnknfepbekaobaa.Pure Go.Proofs.Ytnknfepbekaobaa.Vw
set_option linter.unusedVariables false
set_option linter.unusedSimpArgs false
/-- What a round of the writes keeps. -/
structure BInv (w W : World) (g r q f p : Nat) (m : Int) (A : Option Addr) (c : Nat) (l : Int) (xs : List WR) (k : Nat) : Prop where
  G : Bk W g (startC m A xs.length c l) 25
  F : St FT W f (foldF xs k)
  P : St RT W p (foldR xs k)
  R : St FT W r (VS.mk 0 fun _ => 0)
  Q : St RT W q (VS.mk 0 fun _ => 0)
  K : KpN w W
set_option maxHeartbeats 8000000 in
set_option maxRecDepth 100000 in
theorem begun_yes (m : Int) (A : Option Addr) (c : Nat) (l : Nat) (xs : List WR) (w : World) (hb : bgOk m xs.length) (hC : Kd.C k68 w A xs.length xs) (hx : wrOk xs) (hl : U l) :
    Calls Try.prog 10 #[.agg (startC m A xs.length c (l : Int))] w fun e w' => e = .returned (.tuple #[.agg (bgF m xs l).cells, .agg (bgR m xs l).cells, .bool true]) ∧ KpN w w' := by
  obtain ⟨m0, m3, m2, hn⟩ := hb
  have t1 : decide (m < 0) = false := decide_eq_false (by omega)
  have t2 : decide (3 < m) = false := decide_eq_false (by omega)
  have t3 : (m == 2) = false := beq_eq_false_iff_ne.2 m2
  have t4 : decide (40 < xs.length) = false := decide_eq_false (by omega)
  have t5 : decide (40 < (xs.length : Int)) = false := decide_eq_false (by omega)
  have Hm := Aside0.mk m2
  clear m2
  go_enter Try.func10, Try.ntmps10
  go_wp2_with (first
    | ((with_reducible refine gate_dst (N := 1) rfl ?_); refine bx_ev rfl rfl (N := 1) rfl (startC m A xs.length c (l : Int)) rfl ?_; intro g hg_g w1 hb_g hk_g; have Hg_g := Aside0.mk hg_g; clear hg_g)
    | ((with_reducible refine gate_dst (N := 2) rfl ?_); refine al_ev rfl rfl (N := 2) rfl _ (zeroF _) ?_; intro r hg_r w2 hb_r hk_r; have Hg_r := Aside0.mk hg_r; clear hg_r)
    | ((with_reducible refine gate_dst (N := 3) rfl ?_); refine al_ev rfl rfl (N := 3) rfl _ (zeroR _) ?_; intro q hg_q w3 hb_q hk_q; have Hg_q := Aside0.mk hg_q; clear hg_q)
    | (go_at_call 32; refine (begin_c _).mono ?_; rintro e w4 ⟨rfl, hk4⟩)
    | ((with_reducible refine gate_dst (N := 5) rfl ?_); refine al_ev rfl rfl (N := 5) rfl _ (zeroF _) ?_; intro f hg_f w5 hb_f hk_f; have Hg_f := Aside0.mk hg_f; clear hg_f)
    | ((with_reducible refine gate_store (t := 31) (p := 5) rfl ?_); refine st_ev rfl rfl rfl f (vs0.cells) _ _ rfl rfl (hb_f) infoF rfl (VS.one _) ?_; intro w6 hs_w6 ks_w6)
    | ((with_reducible refine gate_dst (N := 6) rfl ?_); refine al_ev rfl rfl (N := 6) rfl _ (zeroR _) ?_; intro p hg_p w7 hb_p hk_p; have Hg_p := Aside0.mk hg_p; clear hg_p)
    | (((with_reducible refine gate_store (t := 34) (p := 6) rfl ?_); refine st_ev rfl rfl rfl p (vs0.cells) _ _ rfl rfl (hb_p) infoR rfl (VS.one _) ?_; intro w8 hs_w8 ks_w8); obtain ⟨hG, hF, hP, hR, hQ, hlt, K8⟩ := begun_at (Hg_g.out) (Hg_r.out) (Hg_q.out) (Hg_f.out) (Hg_p.out) hb_g hb_r hb_q hs_w6 hs_w8 hk_g hk_r hk_q hk4 hk_f ks_w6 hk_p ks_w8; clear hb_g hb_r hb_q hs_w6 hs_w8 hk_g hk_r hk_q hk4 hk_f ks_w6 hk_p ks_w8 hb_f hb_p Hg_g Hg_r Hg_q Hg_f Hg_p; have c0 := hG.c 0; have c1 := hG.c 1; have c2 := hG.c 2; rw [show (startC m A xs.length c (l : Int))[0]? = some (.int .i64 m) from rfl] at c0; rw [show (startC m A xs.length c (l : Int))[1]? = some (.slice A xs.length c) from rfl] at c1; rw [show (startC m A xs.length c (l : Int))[2]? = some (.int .u64 (l : Int)) from rfl] at c2))
  go_loopw [7] (fun i W => ∃ k : Nat, k ≤ xs.length ∧ i = .int .i64 k ∧ BInv w W g r q f p m A c (l : Int) xs k) (fun i _ => xs.length - (intOf i).toNat)
  case atStart => exact ⟨0, Nat.zero_le _, rfl, ⟨hG, hF, hP, hR, hQ, K8⟩⟩
  case round =>
    obtain ⟨k, hk, rfl, inv⟩ := hrel
    have c1 := inv.G.c 1
    rw [show (startC m A xs.length c (l : Int))[1]? = some (.slice A xs.length c) from rfl] at c1
    by_cases hkn : k < xs.length
    · have hCr : Kd.C k68 wr A xs.length xs := Kd.C_below hC (inv.K.below (fun _ _ h => h.elim) (Nat.le_refl _))
      obtain ⟨ad, hA, e0, e1⟩ := at_T68 hCr (k : Int) (by omega) (by omega)
      have er : rd_T68 xs (k : Int) = xs.getD k z68 := by unfold rd_T68; rw [Int.toNat_natCast]
      obtain ⟨hv, hU⟩ := wrOk_at hx k
      subst hA
      have HE : Aside0 (∀ W : World, Kd.C k68 W (some ad) xs.length xs → W.cell? (ad.add (k * 2)) = some (.int .i64 (xs.getD k z68).f0) ∧ W.cell? ⟨(ad.add (k * 2)).block, (ad.add (k * 2)).off + 1, none⟩ = some (.int .u64 ((xs.getD k z68).f1.toNat : Int))) := ⟨fun W hW => by
        obtain ⟨ad2, hA2, q0, q1⟩ := at_T68 hW (k : Int) (by omega) (by omega)
        obtain rfl : ad = ad2 := Option.some.inj hA2
        rw [er, Int.toNat_natCast] at q0 q1
        rw [hv] at q1
        exact ⟨q0, q1⟩⟩
      clear e0 e1
      obtain ⟨e0, e1⟩ := HE.out wr hCr
      have hS : foldF xs (k + 1) = writeW (foldF xs k) (xs.getD k z68).f0 (xs.getD k z68).f1.toNat := rfl
      have hT : foldR xs (k + 1) = rwriteW (foldR xs k) (xs.getD k z68).f0 (xs.getD k z68).f1.toNat := rfl
      have HS := Aside0.mk hS
      have HT := Aside0.mk hT
      clear hS hT hv er
      generalize (xs.getD k z68).f0 = n0 at e0 HS HT HE
      generalize (xs.getD k z68).f1.toNat = v at e1 HS HT hU HE
      have i0 : (0 : Int) ≤ (k : Int) := by omega
      have i1 : (k : Int) < (xs.length : Int) := by omega
      have i2 : decide ((k : Int) < (xs.length : Int)) = true := decide_eq_true i1
      have i3 : decide (k < xs.length) = true := decide_eq_true hkn
      have HF := foldF_ok hx k
      have HR := foldR_ok hx k
      go_wp2
      go_still_tail 12, (by kernel_rfl)
      change wpList _ _ _ _ _ wr.drew
      go_wp2_with (go_at_call 33; refine (write_c f _ n0 v _ inv.F.drew HF hU).mono ?_; rintro e wa ⟨rfl, hSa, hKa⟩)
      have ka : Kp wr wa (fun i => i = f) := ((Kp.refl wr (fun i => i = f)).drew).trans hKa
      have hgf : g ≠ f := by have := hlt.b; have := hlt.c; have := hlt.d; omega
      have hpf : p ≠ f := by have := hlt.e; omega
      have hrf : r ≠ f := by have := hlt.c; have := hlt.d; omega
      have hqf : q ≠ f := by have := hlt.d; omega
      have hwf : w.heap.size ≤ f := by have := hlt.a; have := hlt.b; have := hlt.c; have := hlt.d; omega
      have Ga := inv.G.kp ka hgf
      have Pa := inv.P.kp ka hpf
      have Ra := inv.R.kp ka hrf
      have Qa := inv.Q.kp ka hqf
      have Ka : KpN w wa := inv.K.then ka fun i hi (e : i = f) => by omega
      clear hCr
      have hCa : Kd.C k68 wa (some ad) xs.length xs := Kd.C_below hC (Ka.below (fun _ _ h => h.elim) (Nat.le_refl _))
      have c1a := Ga.c 1
      rw [show (startC m (some ad) xs.length c (l : Int))[1]? = some (.slice (some ad) xs.length c) from rfl] at c1a
      obtain ⟨e0a, e1a⟩ := HE.out wa hCa
      clear e0 e1 c1 hKa
      go_wp2
      refine wp_region_still_tail 13 (by kernel_rfl) (by kernel_rfl) ?_
      simp only [List.take_succ_cons, List.take_zero, List.drop_succ_cons, List.drop_zero]
      refine wpStill_ld rfl rfl p rfl _ (foldR xs k).cells _ Pa.blk Try.underlying34 rfl infoR ?_
      repeat still_step
      try refine wpStill_nil ?_
      change wpList _ _ _ _ _ wa.drew
      go_wp2_with (first
        | (go_at_call 34; refine (rwrite_c (foldR xs k) n0 v _ HR hU).mono ?_; rintro e wb ⟨rfl, kb0⟩; have kb : KpN wa wb := ((Kp.refl wa (fun _ => False)).drew).trans kb0)
        | ((with_reducible refine gate_store (t := 34) (p := 6) rfl ?_); refine st_ev rfl rfl rfl p ((rwriteW (foldR xs k) n0 v).cells) _ _ rfl rfl ((Pa.kp kb (fun h => h)).blk) infoR rfl (VS.one _) ?_; intro wc hs_wc ks_wc))
      have kac : Kp wa wc (fun i => i = p) := (kb.mono (fun _ _ h => h.elim)).trans ks_wc
      have hgp : g ≠ p := by have := hlt.b; have := hlt.c; have := hlt.d; have := hlt.e; omega
      have hrp : r ≠ p := by have := hlt.c; have := hlt.d; have := hlt.e; omega
      have hqp : q ≠ p := by have := hlt.d; have := hlt.e; omega
      have hwp : w.heap.size ≤ p := by have := hlt.e; omega
      have REL : BInv w wc g r q f p m (some ad) c (l : Int) xs (k + 1) := ⟨Ga.kp kac hgp, by rw [HS.out]; exact hSa.kp kac (fun e : f = p => hpf e.symm), by rw [HT.out]; exact ⟨hs_wc⟩, Ra.kp kac hrp, Qa.kp kac hqp, Ka.then kac fun i hi (e : i = p) => by omega⟩
      go_roundw
      case rel => exact ⟨k + 1, by omega, by go_num, REL⟩
      case measure => simp [intOf]; omega
    · have hke : k = xs.length := by omega
      have i2 : decide ((k : Int) < (xs.length : Int)) = false := decide_eq_false (by omega)
      have i3 : decide (k < xs.length) = false := decide_eq_false hkn
      have HF := foldF_ok hx k
      have HR := foldR_ok hx k
      have HBF : Aside0 (bgF m xs l = ((foldF xs k).set 6 (l &&& 2696)).mode m) := ⟨by rw [hke]; rfl⟩
      have HBR : Aside0 (bgR m xs l = ((foldR xs k).set 3 (l &&& 2696)).mode m) := ⟨by rw [hke]; rfl⟩
      have c2r := inv.G.c 2
      have c0r := inv.G.c 0
      rw [show (startC m A xs.length c (l : Int))[2]? = some (.int .u64 (l : Int)) from rfl] at c2r
      rw [show (startC m A xs.length c (l : Int))[0]? = some (.int .i64 m) from rfl] at c0r
      have hgf : g ≠ f := by have := hlt.b; have := hlt.c; have := hlt.d; omega
      have hpf : p ≠ f := by have := hlt.e; omega
      have hrf : r ≠ f := by have := hlt.c; have := hlt.d; omega
      have hqf : q ≠ f := by have := hlt.d; omega
      have hwf : w.heap.size ≤ f := by have := hlt.a; have := hlt.b; have := hlt.c; have := hlt.d; omega
      have hgp : g ≠ p := by have := hlt.b; have := hlt.c; have := hlt.d; have := hlt.e; omega
      have hrp : r ≠ p := by have := hlt.c; have := hlt.d; have := hlt.e; omega
      have hqp : q ≠ p := by have := hlt.d; have := hlt.e; omega
      have hwp : w.heap.size ≤ p := by have := hlt.e; omega
      clear hke hC
      go_wp2_with (fail)
      refine (hold_c f (foldF xs k) l _ inv.F hl).mono ?_
      rintro e wa ⟨rfl, hSa, ka⟩
      have Ga := inv.G.kp ka hgf
      have c0a := Ga.c 0
      have c2a := Ga.c 2
      rw [show (startC m A xs.length c (l : Int))[2]? = some (.int .u64 (l : Int)) from rfl] at c2a
      rw [show (startC m A xs.length c (l : Int))[0]? = some (.int .i64 m) from rfl] at c0a
      go_wp2_with (fail)
      have Pa := inv.P.kp ka hpf
      have Ra := inv.R.kp ka hrf
      have Qa := inv.Q.kp ka hqf
      have Ka : KpN w wa := inv.K.then ka fun i hi (e : i = f) => by omega
      refine (and_rl l 2696 _ hl (by decide)).mono ?_
      rintro e wb ⟨rfl, kb⟩
      have Gb := Ga.kp kb (fun h => h)
      have c0b := Gb.c 0
      rw [show (startC m A xs.length c (l : Int))[0]? = some (.int .i64 m) from rfl] at c0b
      have Fb := hSa.kp kb (fun h => h)
      have Pb := Pa.kp kb (fun h => h)
      have c3 := Pb.c 3
      have f3 := Pb.f 3
      have fF := Fb.f 0
      have cF := Fb.c0
      have fP := Pb.f 0
      have cP := Pb.c0
      have hfp : f ≠ p := fun e => hpf e.symm
      have hfg : f ≠ g := fun e => hgf e.symm
      have hpg : p ≠ g := fun e => hgp e.symm
      go_wp2
      repeat (go_region; try go_wp2)
      have Rb := Ra.kp kb (fun h => h)
      have Qb := Qa.kp kb (fun h => h)
      have Kb := Ka.trans kb
      have hrq : r ≠ q := by have := hlt.c; omega
      all_goals
        refine two_out (by kernel_rfl) rfl rfl rfl rfl rfl (by kernel_rfl) (by kernel_rfl) (by kernel_rfl) (by kernel_rfl) (by kernel_rfl) (by kernel_rfl) (by kernel_rfl) (by kernel_rfl) rfl rfl rfl rfl rfl rfl rfl Try.underlying31 Try.underlying34 rfl rfl f p r q (((foldF xs k).set 6 (l &&& 2696)).mode m).cells (((foldR xs k).set 3 (l &&& 2696)).mode m).cells (VS.mk 0 fun _ => 0).cells (VS.mk 0 fun _ => 0).cells infoF infoR rfl rfl (VS.one _) (VS.one _)
          (St.blk (T := FT) (s := ((foldF xs k).set 6 (l &&& 2696)).mode m) (by repeat (first | with_reducible exact Fb | apply St.drew | refine St.far ?_ hfp _ | refine St.set0 ?_ _)))
          (St.blk (T := RT) (s := ((foldR xs k).set 3 (l &&& 2696)).mode m) (by repeat (first | with_reducible exact Pb | apply St.drew | refine St.far ?_ hpf _ | refine St.set0 ?_ _ | refine St.set ?_ _ _)))
          (St.blk (T := FT) (s := VS.mk 0 fun _ => 0) (by repeat (first | with_reducible exact Rb | apply St.drew | refine St.far ?_ hrp _ | refine St.far ?_ hrf _)))
          (St.blk (T := RT) (s := VS.mk 0 fun _ => 0) (by repeat (first | with_reducible exact Qb | apply St.drew | refine St.far ?_ hqp _ | refine St.far ?_ hqf _)))
          (fun e : p = r => hrp e.symm) (fun e : q = r => hrq e.symm) rfl rfl rfl rfl rfl rfl rfl rfl rfl rfl rfl ?_
        intro wz h9 h9b k9
        go_wp2
        refine bodyPost_ret (results_cct rfl _ _ r q (((foldF xs k).set 6 (l &&& 2696)).mode m).cells (((foldR xs k).set 3 (l &&& 2696)).mode m).cells (.bool true) _ _ rfl rfl rfl h9 h9b Try.underlying31 Try.underlying34 rfl rfl infoF infoR) rfl ?_
        rw [HBF.out, HBR.out]
        exact ⟨rfl, Kp.then (by repeat (first | with_reducible exact Kb | apply Kp.drew | refine Kp.setCell ?_ (.inr hwp) _ | refine Kp.setCell ?_ (.inr hwf) _)) k9 fun i hi (e : i = r ∨ i = q) => by have := hlt.a; have := hlt.b; have := hlt.c; omega⟩
end Go.Proofs.Ytnknfepbekaobaa.H
/- '==' of arrays of words, as one Bool. -/
namespace Go.Proofs.Ytnknfepbekaobaa.H
open Go.RowKit Go.Proofs.YtnknfepbekaobaaW.PrintWords Go.Proofs.YtnknfepbekaobaaW.PrintLast Go.Proofs.Ytnknfepbekaobaa.PAl Go.Proofs.Ytnknfepbekaobaa.Pure Go.Proofs.Ytnknfepbekaobaa.Vw
set_option linter.unusedVariables false
set_option linter.unusedSimpArgs false
theorem run_forIn_list {P : Program} (w : World) (body : Nat → Option Bool × Unit → Sem (ForInStep (Option Bool × Unit))) (ok : Nat → Bool) :
    ∀ (L : List Nat), (∀ i ∈ L, (body i (none, ())).run P w = .ok (if ok i = true then .yield (none, ()) else .done (some false, ())) w) → (forIn L ((none, ()) : Option Bool × Unit) body).run P w = .ok (if L.all ok = true then (none, ()) else (some false, ())) w
  | [], _ => by simp
  | i :: L, h => by
    rw [List.forIn_cons, Sem.run_bind, h i (by simp), Result.andThen_ok]
    cases hb : ok i with
    | true =>
      have ih := run_forIn_list w body ok L (fun j hj => h j (by simp [hj]))
      simp only [if_true, List.all_cons, hb, Bool.true_and]
      exact ih
    | false => simp [hb]
theorem eqArr {P : Program} {T e : TypeId} {n : Nat} (w : World) (d : Nat) (hu : P.underlying T = some (.array n e)) (he : P.underlying e = some (.int .u64)) (hs : (P.info? e).map (·.size) = some 1) (xs ys : Array Value) (f g : Nat → Int)
    (hx : ∀ i, i < n → xs[i]? = some (.int .u64 (f i))) (hy : ∀ i, i < n → ys[i]? = some (.int .u64 (g i))) :
    (Op.equalIn (d + 2) T (.agg xs) (.agg ys)).run P w = .ok ((List.range n).all fun i => f i == g i) w := by
  rw [Op.equalIn]
  have hso : (sizeOf e).run P w = .ok 1 w := by
    cases hq : P.info? e with
    | none => simp [hq] at hs
    | some i => simp [hq] at hs; simp [sizeOf, typeInfo, hq, hs]
  have hag : (isAgg e).run P w = .ok false w := by
    unfold isAgg; rw [Sem.run_bind, run_underlying he w]; rfl
  simp only [Sem.run_bind, run_underlying hu w, Result.andThen_ok, hso]
  rw [Std.Legacy.Range.forIn_eq_forIn_range']
  rw [run_forIn_list w _ (fun i => f i == g i)]
  · rw [Result.andThen_ok]
    have hL : List.range' 0 n 1 = List.range n := by rw [List.range_eq_range']
    simp only [Std.Legacy.Range.size, Nat.sub_zero, Nat.add_sub_cancel, Nat.div_one] 
    rw [hL]
    cases (List.range n).all fun i => f i == g i <;> rfl
  · intro i hi
    have hin : i < n := by simpa using hi
    have p1 : (part e xs (i * 1)).run P w = .ok (.int .u64 (f i)) w := by
      unfold part; rw [Sem.run_bind, hag, Result.andThen_ok, Nat.mul_one, hx i hin]; rfl
    have p2 : (part e ys (i * 1)).run P w = .ok (.int .u64 (g i)) w := by
      unfold part; rw [Sem.run_bind, hag, Result.andThen_ok, Nat.mul_one, hy i hin]; rfl
    have p3 : (Op.equalIn (d + 1) e (.int .u64 (f i)) (.int .u64 (g i))).run P w = .ok (f i == g i) w := by
      rw [Op.equalIn, Sem.run_bind, run_underlying he w, Result.andThen_ok]; rfl
    simp only [Sem.run_bind, p1, p2, p3, Result.andThen_ok]
    cases f i == g i <;> rfl
end Go.Proofs.Ytnknfepbekaobaa.H
/- Is a file as the document's (vireolaw08.Same)? Walked by hand. -/
namespace Go.Proofs.Ytnknfepbekaobaa.H
open Go.RowKit Go.Proofs.YtnknfepbekaobaaW.PrintWords Go.Proofs.YtnknfepbekaobaaW.PrintLast Go.Proofs.Ytnknfepbekaobaa.PAl Go.Proofs.Ytnknfepbekaobaa.Pure Go.Proofs.Ytnknfepbekaobaa.Vw
set_option linter.unusedVariables false
set_option linter.unusedSimpArgs false
theorem wpList_in {P : Program} {ops : Array Oper} {Q : Exit → Act → World → Prop} {a : Act} {w : World} {rest : List Oper} {o : Oper} (hw : Region.wanted o (yielded ops a.tmps) = true) (h : o.wp P a w (wpList P ops Q rest) Q) : wpList P ops Q (o :: rest) a w := by
  unfold wpList; rw [if_pos hw]; exact .inl h
/-- Where the document's k-th place is in a file. -/
def perm (i : Nat) : Nat := if i = 0 then 1 else if i = 1 then 5 else if i = 2 then 6 else if i = 3 then 2 else if i = 4 then 3 else if i = 5 then 4 else i + 1
def permC (s : VS) : Array Value := #[.int .u64 (s.r 1 : Int), .int .u64 (s.r 5 : Int), .int .u64 (s.r 6 : Int), .int .u64 (s.r 2 : Int), .int .u64 (s.r 3 : Int), .int .u64 (s.r 4 : Int), .int .u64 (s.r 7 : Int), .int .u64 (s.r 8 : Int), .int .u64 (s.r 9 : Int), .int .u64 (s.r 10 : Int), .int .u64 (s.r 11 : Int), .int .u64 (s.r 12 : Int), .int .u64 (s.r 13 : Int), .int .u64 (s.r 14 : Int), .int .u64 (s.r 15 : Int), .int .u64 (s.r 16 : Int), .int .u64 (s.r 17 : Int), .int .u64 (s.r 18 : Int), .int .u64 (s.r 19 : Int), .int .u64 (s.r 20 : Int), .int .u64 (s.r 21 : Int), .int .u64 (s.r 22 : Int)]
def kC (s : VS) : Array Value := #[.int .u64 (s.r 1 : Int), .int .u64 (s.r 2 : Int), .int .u64 (s.r 3 : Int), .int .u64 (s.r 4 : Int), .int .u64 (s.r 5 : Int), .int .u64 (s.r 6 : Int), .int .u64 (s.r 7 : Int), .int .u64 (s.r 8 : Int), .int .u64 (s.r 9 : Int), .int .u64 (s.r 10 : Int), .int .u64 (s.r 11 : Int), .int .u64 (s.r 12 : Int), .int .u64 (s.r 13 : Int), .int .u64 (s.r 14 : Int), .int .u64 (s.r 15 : Int), .int .u64 (s.r 16 : Int), .int .u64 (s.r 17 : Int), .int .u64 (s.r 18 : Int), .int .u64 (s.r 19 : Int), .int .u64 (s.r 20 : Int), .int .u64 (s.r 21 : Int), .int .u64 (s.r 22 : Int)]
theorem permC_at (s : VS) (i : Nat) (h : i < 22) : (permC s)[i]? = some (.int .u64 (s.r (perm i) : Int)) := by
  rcases i with _ | _ | _ | _ | _ | _ | _ | _ | _ | _ | _ | _ | _ | _ | _ | _ | _ | _ | _ | _ | _ | _ | i
  all_goals first | rfl | omega
theorem kC_at (s : VS) (i : Nat) (h : i < 22) : (kC s)[i]? = some (.int .u64 (s.r (i + 1) : Int)) := by
  rcases i with _ | _ | _ | _ | _ | _ | _ | _ | _ | _ | _ | _ | _ | _ | _ | _ | _ | _ | _ | _ | _ | _ | i
  all_goals first | rfl | omega
theorem permC_one (s : VS) : (permC s).all (·.oneCell') = true := by unfold permC; simp [Value.oneCell']
abbrev AT : TypeId := 32
theorem zeroA (W : World) : (zeroValue AT).run Try.prog W = .ok (.agg (kC (VS.mk 0 fun _ => 0))) W := by kernel_rfl
theorem infoA : (Try.prog.info? AT).map (·.size) = some 22 := by kernel_rfl
theorem guardA : Try.prog.eqGuardType Try.prog.depth AT = false := by kernel_rfl
def sameK (f w : VS) : Bool := (List.range 22).all fun i => (f.r (perm i) : Int) == (w.r (i + 1) : Int)
def sameB (f w : VS) : Bool := (f.m == w.m) && sameK f w
theorem eqA (f w : VS) (W : World) : (Op.equalIn 10000 AT (.agg (permC f)) (.agg (kC w))).run Try.prog W = .ok (sameK f w) W :=
  eqArr W 9998 Try.underlying32 Try.underlying23 (by kernel_rfl) (permC f) (kC w) _ _ (permC_at f) (kC_at w)
theorem kC_range {W : World} {g : Nat} {s : VS} (h : St RT W g s) : W.rangeAt g 1 (kC s).toList := fun j v hv => by
  have hj : j < 22 := by
    have := (List.getElem?_eq_some_iff.1 hv).1
    simpa [kC] using this
  rw [h.c (1 + j) (by omega) (by omega)]
  rw [Array.getElem?_toList, kC_at s j hj] at hv
  rw [Nat.add_comm 1 j]; exact hv
set_option maxHeartbeats 8000000 in
set_option maxRecDepth 100000 in
theorem same_c (f w : VS) (W : World) :
    Calls Try.prog 14 #[.agg f.cells, .agg w.cells] W fun e W' => e = .returned (.bool (sameB f w)) ∧ KpN W W' := by
  have hEq := eqA f w
  have hgd := guardA
  by_cases hm : f.m = w.m
  · have hmb : (f.m == w.m) = true := beq_iff_eq.2 hm
    have hsame : sameB f w = sameK f w := by unfold sameB; rw [hmb, Bool.true_and]
    have Hs := Aside0.mk hsame
    clear hsame hm
    go_enter Try.func14, Try.ntmps14
    go_wp2_with (first
      | ((with_reducible refine gate_dst (N := 2) rfl ?_); refine bx_ev rfl rfl (N := 2) rfl (f.cells) rfl ?_; intro g hg_g w1 hb_g hk_g; have Hg_g := Aside0.mk hg_g; clear hg_g)
      | (((with_reducible refine gate_dst (N := 3) rfl ?_); refine bx_ev rfl rfl (N := 3) rfl (w.cells) rfl ?_; intro p hg_p w2 hb_p hk_p; have Hg_p := Aside0.mk hg_p; clear hg_p); have hI := (St.mk (T := FT) hb_g).kp hk_p (fun h => h); have c1 := hI.c 1; have c2 := hI.c 2; have c3 := hI.c 3; have c4 := hI.c 4; have c5 := hI.c 5; have c6 := hI.c 6; have c7 := hI.c 7; have c8 := hI.c 8; have c9 := hI.c 9; have c10 := hI.c 10; have c11 := hI.c 11; have c12 := hI.c 12; have c13 := hI.c 13; have c14 := hI.c 14; have c15 := hI.c 15; have c16 := hI.c 16; have c17 := hI.c 17; have c18 := hI.c 18; have c19 := hI.c 19; have c20 := hI.c 20; have c21 := hI.c 21; have c22 := hI.c 22)
      | ((with_reducible refine gate_dst (N := 5) rfl ?_); refine al_ev rfl rfl (N := 5) rfl _ (zeroA _) ?_; intro k hg_k w3 hb_k hk_k; have Hg_k := Aside0.mk hg_k; clear hg_k)
      | ((with_reducible refine gate_store (t := AT) (p := 5) rfl ?_); refine st_ev rfl rfl rfl k (permC f) _ _ rfl rfl hb_k infoA rfl (permC_one _) ?_; intro w4 hs4 ks4; have hgk : g ≠ k := (by have := Hg_k.out; have := hI.lt; omega); have hpk : p ≠ k := (by have := Hg_k.out; have := blk_lt hb_p; omega); have hI4 := (hI.kp hk_k (fun h => h)).kp ks4 hgk; have hP4 : St RT w4 p w := ((St.mk (T := RT) hb_p).kp hk_k (fun h => h)).kp ks4 hpk; have d0 := hI4.c0; have d1 := hP4.c0)
      | ((with_reducible refine gate_dst (N := 57) rfl ?_); refine wpList_in (by rfl) (wp_load_row AT _ rfl k rfl _ (permC f) (0, 0) _ hs4 Try.underlying32 rfl infoA ?_))
      | ((with_reducible refine gate_dst (N := 59) rfl ?_); refine wpList_in (by rfl) (wp_load_mid AT _ rfl p 1 rfl (kC w).toList _ (kC_range hP4) Try.underlying32 rfl infoA ?_)))
    go_ret
    rw [Hs.out]
    exact ⟨rfl, ((hk_g.trans hk_p).trans hk_k).then ks4 fun i hi (e : i = k) => by have := Hg_k.out; have := (hk_g.trans hk_p).size; omega⟩
  · have hmb : (f.m == w.m) = false := beq_eq_false_iff_ne.2 hm
    have hsame : sameB f w = false := by unfold sameB; rw [hmb, Bool.false_and]
    have Hs := Aside0.mk hsame
    clear hsame hm
    go_enter Try.func14, Try.ntmps14
    go_wp2_with (first
      | ((with_reducible refine gate_dst (N := 2) rfl ?_); refine bx_ev rfl rfl (N := 2) rfl (f.cells) rfl ?_; intro g hg_g w1 hb_g hk_g; have Hg_g := Aside0.mk hg_g; clear hg_g)
      | (((with_reducible refine gate_dst (N := 3) rfl ?_); refine bx_ev rfl rfl (N := 3) rfl (w.cells) rfl ?_; intro p hg_p w2 hb_p hk_p; have Hg_p := Aside0.mk hg_p; clear hg_p); have hI := (St.mk (T := FT) hb_g).kp hk_p (fun h => h); have c1 := hI.c 1; have c2 := hI.c 2; have c3 := hI.c 3; have c4 := hI.c 4; have c5 := hI.c 5; have c6 := hI.c 6; have c7 := hI.c 7; have c8 := hI.c 8; have c9 := hI.c 9; have c10 := hI.c 10; have c11 := hI.c 11; have c12 := hI.c 12; have c13 := hI.c 13; have c14 := hI.c 14; have c15 := hI.c 15; have c16 := hI.c 16; have c17 := hI.c 17; have c18 := hI.c 18; have c19 := hI.c 19; have c20 := hI.c 20; have c21 := hI.c 21; have c22 := hI.c 22)
      | ((with_reducible refine gate_dst (N := 5) rfl ?_); refine al_ev rfl rfl (N := 5) rfl _ (zeroA _) ?_; intro k hg_k w3 hb_k hk_k; have Hg_k := Aside0.mk hg_k; clear hg_k)
      | ((with_reducible refine gate_store (t := AT) (p := 5) rfl ?_); refine st_ev rfl rfl rfl k (permC f) _ _ rfl rfl hb_k infoA rfl (permC_one _) ?_; intro w4 hs4 ks4; have hgk : g ≠ k := (by have := Hg_k.out; have := hI.lt; omega); have hpk : p ≠ k := (by have := Hg_k.out; have := blk_lt hb_p; omega); have hI4 := (hI.kp hk_k (fun h => h)).kp ks4 hgk; have hP4 : St RT w4 p w := ((St.mk (T := RT) hb_p).kp hk_k (fun h => h)).kp ks4 hpk; have d0 := hI4.c0; have d1 := hP4.c0))
    go_ret
    rw [Hs.out]
    exact ⟨rfl, ((hk_g.trans hk_p).trans hk_k).then ks4 fun i hi (e : i = k) => by have := Hg_k.out; have := (hk_g.trans hk_p).size; omega⟩
end Go.Proofs.Ytnknfepbekaobaa.H
/- The registers in plain Lean: what the code keeps is what the document keeps. No program in sight. -/
namespace Go.Proofs.Ytnknfepbekaobaa.H
open Go.RowKit Go.Proofs.YtnknfepbekaobaaW.PrintWords Go.Proofs.YtnknfepbekaobaaW.PrintLast Go.Proofs.Ytnknfepbekaobaa.PAl Go.Proofs.Ytnknfepbekaobaa.Pure Go.Proofs.Ytnknfepbekaobaa.Vw
set_option linter.unusedVariables false
set_option linter.unusedSimpArgs false
/-- A file is as the document's. -/
structure Rel (f w : VS) : Prop where
  m : f.m = w.m
  r : ∀ i, i < 22 → f.r (perm i) = w.r (i + 1)
theorem perm_inj : ∀ i, i < 22 → ∀ a, a < 22 → perm i = perm a → i = a := by decide
theorem Rel.set {f w : VS} (h : Rel f w) (a : Nat) (ha : a < 22) (v : Nat) : Rel (f.set (perm a) v) (w.set (a + 1) v) := ⟨h.m, fun i hi => by
  show (if perm i = perm a then v else f.r (perm i)) = if i + 1 = a + 1 then v else w.r (i + 1)
  by_cases e : i = a
  · subst e; rw [if_pos rfl, if_pos rfl]
  · rw [if_neg (fun q => e (perm_inj i hi a ha q)), if_neg (fun q => e (by omega)), h.r i hi]⟩
theorem Rel.mode {f w : VS} (h : Rel f w) (m : Int) : Rel (f.mode m) (w.mode m) := ⟨rfl, h.r⟩
theorem Rel.same {f w : VS} (h : Rel f w) : sameB f w = true := by
  unfold sameB sameK
  rw [h.m, beq_self_eq_true, Bool.true_and, List.all_eq_true]
  intro i hi
  rw [h.r i (List.mem_range.1 hi), beq_self_eq_true]
theorem Rel.of_same {f w : VS} (h : sameB f w = true) : Rel f w := by
  unfold sameB sameK at h
  rw [Bool.and_eq_true, List.all_eq_true] at h
  exact ⟨beq_iff_eq.1 h.1, fun i hi => by have := beq_iff_eq.1 (h.2 i (List.mem_range.2 hi)); omega⟩
theorem VS.set_self (s : VS) (j : Nat) : s.set j (s.r j) = s := VS.ext rfl (funext fun i => by show (if i = j then s.r j else s.r i) = s.r i; by_cases e : i = j; subst e; simp; simp [e])
theorem Rel.vs0 : Rel vs0 vs0 := ⟨rfl, fun _ _ => rfl⟩
theorem and_all {x : Nat} (h : U x) : x &&& 18446744073709551615 = x := by
  rw [show (18446744073709551615 : Nat) = 2 ^ 64 - 1 from rfl, Nat.and_two_pow_sub_one_eq_mod, Nat.mod_eq_of_lt (by rw [two64]; exact h.lt)]
theorem bit1 (x : Nat) : (x &&& 2 = 0) ↔ ¬ getW x 1 1 = 1 := by
  have h : getW x 1 1 = x / 2 % 2 := by
    unfold getW; rw [if_pos (by decide)]; rfl
  have h2 : x &&& 2 = 2 * (x / 2 % 2) := by
    apply Nat.eq_of_testBit_eq
    intro i
    rw [Nat.testBit_and]
    rcases i with _ | _ | i
    · simp [Nat.testBit_zero]
    · have : (2 * (x / 2 % 2)).testBit (0 + 1) = (x / 2 % 2).testBit 0 := by rw [Nat.testBit_succ]; congr 1; omega
      rw [this, Nat.testBit_succ, Nat.testBit_zero, Nat.testBit_zero]; simp; try (intro _; rfl)
    · have a2 : (2 : Nat).testBit (i + 1 + 1) = false := by rw [Nat.testBit_succ, Nat.testBit_succ]; simp
      have b2 : (2 * (x / 2 % 2)).testBit (i + 1 + 1) = false := by
        rw [Nat.testBit_succ, show 2 * (x / 2 % 2) / 2 = x / 2 % 2 by omega, Nat.testBit_succ, show x / 2 % 2 / 2 = 0 by omega]; simp
      rw [a2, b2]; simp
  rw [h, h2]; omega
def nums : List Int := [768, 256, 769, 770, 771, 772, 260, 836, 324, 773, 261, 774, 262, 832, 320, 834, 322, 835, 323, 2816, 2818, 833, 321, 384, 3072, 3073, 3074, 3857, 3858, 3859, 3860]
theorem rows_nums : rowsL.map (fun y => y.f0) = nums := by decide +kernel
theorem ofR_no {n : Int} (h : n ∉ nums) : (ofR n).2.2.2.2 = false := by
  unfold ofR findR
  have : rowsL.find? (fun x => decide (x.f0 = n)) = none := by
    rw [List.find?_eq_none]
    intro y hy hd
    apply h
    rw [← rows_nums, ← of_decide_eq_true hd]
    exact List.mem_map_of_mem hy
  rw [this]
theorem place_no {n : Int} (h : n ∉ nums) : placeW n = 0 := by
  simp only [nums, List.mem_cons, List.not_mem_nil, or_false, not_or] at h
  unfold placeW superW
  simp [h]
theorem row770 : (ofR 770).2.2 = (3, 46079, true) := by decide +kernel
theorem row771 : (ofR 771).2.2 = (4, 546, true) := by decide +kernel
theorem row772 : (ofR 772).2.2 = (5, 2730, true) := by decide +kernel
theorem row773 : (ofR 773).2.2 = (6, 18446744073709551615, true) := by decide +kernel
theorem row261 : (ofR 261).2.2 = (12, 18446744073709551615, true) := by decide +kernel
theorem row774 : (ofR 774).2.2 = (7, 7, true) := by decide +kernel
theorem row262 : (ofR 262).2.2 = (13, 7, true) := by decide +kernel
theorem row832 : (ofR 832).2.2 = (8, 18446744073709551615, true) := by decide +kernel
theorem row320 : (ofR 320).2.2 = (14, 18446744073709551615, true) := by decide +kernel
theorem row834 : (ofR 834).2.2 = (10, 18446744073709551615, true) := by decide +kernel
theorem row322 : (ofR 322).2.2 = (16, 18446744073709551615, true) := by decide +kernel
theorem row835 : (ofR 835).2.2 = (11, 18446744073709551615, true) := by decide +kernel
theorem row323 : (ofR 323).2.2 = (17, 18446744073709551615, true) := by decide +kernel
theorem row2816 : (ofR 2816).2.2 = (19, 18446744073709551615, true) := by decide +kernel
theorem row2818 : (ofR 2818).2.2 = (20, 18446744073709551615, true) := by decide +kernel
theorem row833 : (ofR 833).2.2 = (9, 18446744073709551612, true) := by decide +kernel
theorem row321 : (ofR 321).2.2 = (15, 18446744073709551612, true) := by decide +kernel
theorem row384 : (ofR 384).2.2 = (18, 18446744073709551615, true) := by decide +kernel
theorem row3072 : (ofR 3072).2.2 = (19, 0, true) := by decide +kernel
theorem row3073 : (ofR 3073).2.2 = (21, 0, true) := by decide +kernel
theorem row3074 : (ofR 3074).2.2 = (20, 0, true) := by decide +kernel
theorem row769 : (ofR 769).2.2 = (-1, 0, true) := by decide +kernel
theorem row3857 : (ofR 3857).2.2 = (-1, 0, true) := by decide +kernel
theorem row3858 : (ofR 3858).2.2 = (-1, 0, true) := by decide +kernel
theorem row3859 : (ofR 3859).2.2 = (-1, 0, true) := by decide +kernel
theorem row3860 : (ofR 3860).2.2 = (-1, 0, true) := by decide +kernel
theorem rw_row {n : Int} {a : Nat} {k : Nat} (s : VS) (x : Nat) (hn : NotFive n) (h : (ofR n).2.2 = ((a : Int), (k : Int), true)) (hk : k ≠ 0) :
    rwriteW s n x = if (a = 6 ∨ a = 12) ∧ getW x 1 1 = 1 then s else if a = 18 ∧ getW x 60 4 ≠ 0 ∧ getW x 60 4 ≠ 8 then s else s.set (a + 1) (x &&& k) := by
  have b1 := beq_eq_false_iff_ne.1 hn.b1
  have b2 := beq_eq_false_iff_ne.1 hn.b2
  have b3 := beq_eq_false_iff_ne.1 hn.b3
  have b4 := beq_eq_false_iff_ne.1 hn.b4
  have b5 := beq_eq_false_iff_ne.1 hn.b5
  unfold rwriteW
  rw [if_neg b1, if_neg b2, if_neg b3, if_neg b4, if_neg b5, h]
  dsimp only
  rw [if_neg (by rintro (q | q | q); cases q; omega; omega), Int.toNat_natCast, Int.toNat_natCast]
  have e6 : ((a : Int) = 6 ∨ (a : Int) = 12) ↔ (a = 6 ∨ a = 12) := by omega
  have e18 : ((a : Int) = 18) ↔ (a = 18) := by omega
  simp only [e6, e18]
theorem rw_no {n : Int} (s : VS) (x : Nat) (hn : NotFive n) (h : (ofR n).2.2.2.2 = false ∨ (ofR n).2.2.1 < 0 ∨ (ofR n).2.2.2.1 = 0) : rwriteW s n x = s := by
  have b1 := beq_eq_false_iff_ne.1 hn.b1
  have b2 := beq_eq_false_iff_ne.1 hn.b2
  have b3 := beq_eq_false_iff_ne.1 hn.b3
  have b4 := beq_eq_false_iff_ne.1 hn.b4
  have b5 := beq_eq_false_iff_ne.1 hn.b5
  unfold rwriteW
  rw [if_neg b1, if_neg b2, if_neg b3, if_neg b4, if_neg b5, if_pos h]
theorem wr_row {n : Int} (s : VS) (x : Nat) (hn : NotFive n) (hc : ¬ (n = 3072 ∨ n = 3073 ∨ n = 3074)) : writeW s n x = if placeW n = 0 then s else s.set (placeW n) (legalW n (s.r (placeW n)) x) := by
  have b1 := beq_eq_false_iff_ne.1 hn.b1
  have b2 := beq_eq_false_iff_ne.1 hn.b2
  have b3 := beq_eq_false_iff_ne.1 hn.b3
  have b4 := beq_eq_false_iff_ne.1 hn.b4
  have b5 := beq_eq_false_iff_ne.1 hn.b5
  unfold writeW
  rw [if_neg b1, if_neg b2, if_neg b3, if_neg b4, if_neg b5, if_neg hc]
theorem step770 {f w : VS} (h : Rel f w) (x : Nat) (hx : U x) : Rel (writeW f 770 x) (rwriteW w 770 x) := by
  rw [wr_row f x ⟨by decide, by decide, by decide, by decide, by decide⟩ (by decide), rw_row (a := 3) (k := 46079) w x ⟨by decide, by decide, by decide, by decide, by decide⟩ row770 (by decide), show placeW 770 = perm 3 from by decide, if_neg (show ¬ perm 3 = 0 from by decide)]
  rw [show legalW 770 (f.r (perm 3)) x = x &&& 46079 from rfl, if_neg (show ¬ ((3 = 6 ∨ 3 = 12) ∧ _) from fun q => absurd q.1 (by decide)), if_neg (show ¬ (3 = 18 ∧ _) from fun q => absurd q.1 (by decide))]
  exact h.set 3 (by decide) _
theorem step771 {f w : VS} (h : Rel f w) (x : Nat) (hx : U x) : Rel (writeW f 771 x) (rwriteW w 771 x) := by
  rw [wr_row f x ⟨by decide, by decide, by decide, by decide, by decide⟩ (by decide), rw_row (a := 4) (k := 546) w x ⟨by decide, by decide, by decide, by decide, by decide⟩ row771 (by decide), show placeW 771 = perm 4 from by decide, if_neg (show ¬ perm 4 = 0 from by decide)]
  rw [show legalW 771 (f.r (perm 4)) x = x &&& 546 from rfl, if_neg (show ¬ ((4 = 6 ∨ 4 = 12) ∧ _) from fun q => absurd q.1 (by decide)), if_neg (show ¬ (4 = 18 ∧ _) from fun q => absurd q.1 (by decide))]
  exact h.set 4 (by decide) _
theorem step772 {f w : VS} (h : Rel f w) (x : Nat) (hx : U x) : Rel (writeW f 772 x) (rwriteW w 772 x) := by
  rw [wr_row f x ⟨by decide, by decide, by decide, by decide, by decide⟩ (by decide), rw_row (a := 5) (k := 2730) w x ⟨by decide, by decide, by decide, by decide, by decide⟩ row772 (by decide), show placeW 772 = perm 5 from by decide, if_neg (show ¬ perm 5 = 0 from by decide)]
  rw [show legalW 772 (f.r (perm 5)) x = x &&& 2730 from rfl, if_neg (show ¬ ((5 = 6 ∨ 5 = 12) ∧ _) from fun q => absurd q.1 (by decide)), if_neg (show ¬ (5 = 18 ∧ _) from fun q => absurd q.1 (by decide))]
  exact h.set 5 (by decide) _
theorem step773 {f w : VS} (h : Rel f w) (x : Nat) (hx : U x) : Rel (writeW f 773 x) (rwriteW w 773 x) := by
  rw [wr_row f x ⟨by decide, by decide, by decide, by decide, by decide⟩ (by decide), rw_row (a := 6) (k := 18446744073709551615) w x ⟨by decide, by decide, by decide, by decide, by decide⟩ row773 (by decide), show placeW 773 = perm 6 from by decide, if_neg (show ¬ perm 6 = 0 from by decide)]
  have hl : legalW 773 (f.r (perm 6)) x = if x &&& 2 = 0 then x else f.r (perm 6) := rfl
  rw [hl]
  by_cases hb : getW x 1 1 = 1
  · rw [if_neg (show ¬ x &&& 2 = 0 from fun q => (bit1 x).1 q hb), if_pos (show (6 = 6 ∨ 6 = 12) ∧ getW x 1 1 = 1 from ⟨by decide, hb⟩)]
    rw [VS.set_self]; exact h
  · rw [if_pos ((bit1 x).2 hb), if_neg (show ¬ ((6 = 6 ∨ 6 = 12) ∧ getW x 1 1 = 1) from fun q => hb q.2), if_neg (show ¬ (6 = 18 ∧ _) from fun q => absurd q.1 (by decide)), and_all hx]
    exact h.set 6 (by decide) x
theorem step261 {f w : VS} (h : Rel f w) (x : Nat) (hx : U x) : Rel (writeW f 261 x) (rwriteW w 261 x) := by
  rw [wr_row f x ⟨by decide, by decide, by decide, by decide, by decide⟩ (by decide), rw_row (a := 12) (k := 18446744073709551615) w x ⟨by decide, by decide, by decide, by decide, by decide⟩ row261 (by decide), show placeW 261 = perm 12 from by decide, if_neg (show ¬ perm 12 = 0 from by decide)]
  have hl : legalW 261 (f.r (perm 12)) x = if x &&& 2 = 0 then x else f.r (perm 12) := rfl
  rw [hl]
  by_cases hb : getW x 1 1 = 1
  · rw [if_neg (show ¬ x &&& 2 = 0 from fun q => (bit1 x).1 q hb), if_pos (show (12 = 6 ∨ 12 = 12) ∧ getW x 1 1 = 1 from ⟨by decide, hb⟩)]
    rw [VS.set_self]; exact h
  · rw [if_pos ((bit1 x).2 hb), if_neg (show ¬ ((12 = 6 ∨ 12 = 12) ∧ getW x 1 1 = 1) from fun q => hb q.2), if_neg (show ¬ (12 = 18 ∧ _) from fun q => absurd q.1 (by decide)), and_all hx]
    exact h.set 12 (by decide) x
theorem step774 {f w : VS} (h : Rel f w) (x : Nat) (hx : U x) : Rel (writeW f 774 x) (rwriteW w 774 x) := by
  rw [wr_row f x ⟨by decide, by decide, by decide, by decide, by decide⟩ (by decide), rw_row (a := 7) (k := 7) w x ⟨by decide, by decide, by decide, by decide, by decide⟩ row774 (by decide), show placeW 774 = perm 7 from by decide, if_neg (show ¬ perm 7 = 0 from by decide)]
  rw [show legalW 774 (f.r (perm 7)) x = x &&& 7 from rfl, if_neg (show ¬ ((7 = 6 ∨ 7 = 12) ∧ _) from fun q => absurd q.1 (by decide)), if_neg (show ¬ (7 = 18 ∧ _) from fun q => absurd q.1 (by decide))]
  exact h.set 7 (by decide) _
theorem step262 {f w : VS} (h : Rel f w) (x : Nat) (hx : U x) : Rel (writeW f 262 x) (rwriteW w 262 x) := by
  rw [wr_row f x ⟨by decide, by decide, by decide, by decide, by decide⟩ (by decide), rw_row (a := 13) (k := 7) w x ⟨by decide, by decide, by decide, by decide, by decide⟩ row262 (by decide), show placeW 262 = perm 13 from by decide, if_neg (show ¬ perm 13 = 0 from by decide)]
  rw [show legalW 262 (f.r (perm 13)) x = x &&& 7 from rfl, if_neg (show ¬ ((13 = 6 ∨ 13 = 12) ∧ _) from fun q => absurd q.1 (by decide)), if_neg (show ¬ (13 = 18 ∧ _) from fun q => absurd q.1 (by decide))]
  exact h.set 13 (by decide) _
theorem step832 {f w : VS} (h : Rel f w) (x : Nat) (hx : U x) : Rel (writeW f 832 x) (rwriteW w 832 x) := by
  rw [wr_row f x ⟨by decide, by decide, by decide, by decide, by decide⟩ (by decide), rw_row (a := 8) (k := 18446744073709551615) w x ⟨by decide, by decide, by decide, by decide, by decide⟩ row832 (by decide), show placeW 832 = perm 8 from by decide, if_neg (show ¬ perm 8 = 0 from by decide)]
  rw [show legalW 832 (f.r (perm 8)) x = x from rfl, if_neg (show ¬ ((8 = 6 ∨ 8 = 12) ∧ _) from fun q => absurd q.1 (by decide)), if_neg (show ¬ (8 = 18 ∧ _) from fun q => absurd q.1 (by decide)), and_all hx]
  exact h.set 8 (by decide) _
theorem step320 {f w : VS} (h : Rel f w) (x : Nat) (hx : U x) : Rel (writeW f 320 x) (rwriteW w 320 x) := by
  rw [wr_row f x ⟨by decide, by decide, by decide, by decide, by decide⟩ (by decide), rw_row (a := 14) (k := 18446744073709551615) w x ⟨by decide, by decide, by decide, by decide, by decide⟩ row320 (by decide), show placeW 320 = perm 14 from by decide, if_neg (show ¬ perm 14 = 0 from by decide)]
  rw [show legalW 320 (f.r (perm 14)) x = x from rfl, if_neg (show ¬ ((14 = 6 ∨ 14 = 12) ∧ _) from fun q => absurd q.1 (by decide)), if_neg (show ¬ (14 = 18 ∧ _) from fun q => absurd q.1 (by decide)), and_all hx]
  exact h.set 14 (by decide) _
theorem step834 {f w : VS} (h : Rel f w) (x : Nat) (hx : U x) : Rel (writeW f 834 x) (rwriteW w 834 x) := by
  rw [wr_row f x ⟨by decide, by decide, by decide, by decide, by decide⟩ (by decide), rw_row (a := 10) (k := 18446744073709551615) w x ⟨by decide, by decide, by decide, by decide, by decide⟩ row834 (by decide), show placeW 834 = perm 10 from by decide, if_neg (show ¬ perm 10 = 0 from by decide)]
  rw [show legalW 834 (f.r (perm 10)) x = x from rfl, if_neg (show ¬ ((10 = 6 ∨ 10 = 12) ∧ _) from fun q => absurd q.1 (by decide)), if_neg (show ¬ (10 = 18 ∧ _) from fun q => absurd q.1 (by decide)), and_all hx]
  exact h.set 10 (by decide) _
theorem step322 {f w : VS} (h : Rel f w) (x : Nat) (hx : U x) : Rel (writeW f 322 x) (rwriteW w 322 x) := by
  rw [wr_row f x ⟨by decide, by decide, by decide, by decide, by decide⟩ (by decide), rw_row (a := 16) (k := 18446744073709551615) w x ⟨by decide, by decide, by decide, by decide, by decide⟩ row322 (by decide), show placeW 322 = perm 16 from by decide, if_neg (show ¬ perm 16 = 0 from by decide)]
  rw [show legalW 322 (f.r (perm 16)) x = x from rfl, if_neg (show ¬ ((16 = 6 ∨ 16 = 12) ∧ _) from fun q => absurd q.1 (by decide)), if_neg (show ¬ (16 = 18 ∧ _) from fun q => absurd q.1 (by decide)), and_all hx]
  exact h.set 16 (by decide) _
theorem step835 {f w : VS} (h : Rel f w) (x : Nat) (hx : U x) : Rel (writeW f 835 x) (rwriteW w 835 x) := by
  rw [wr_row f x ⟨by decide, by decide, by decide, by decide, by decide⟩ (by decide), rw_row (a := 11) (k := 18446744073709551615) w x ⟨by decide, by decide, by decide, by decide, by decide⟩ row835 (by decide), show placeW 835 = perm 11 from by decide, if_neg (show ¬ perm 11 = 0 from by decide)]
  rw [show legalW 835 (f.r (perm 11)) x = x from rfl, if_neg (show ¬ ((11 = 6 ∨ 11 = 12) ∧ _) from fun q => absurd q.1 (by decide)), if_neg (show ¬ (11 = 18 ∧ _) from fun q => absurd q.1 (by decide)), and_all hx]
  exact h.set 11 (by decide) _
theorem step323 {f w : VS} (h : Rel f w) (x : Nat) (hx : U x) : Rel (writeW f 323 x) (rwriteW w 323 x) := by
  rw [wr_row f x ⟨by decide, by decide, by decide, by decide, by decide⟩ (by decide), rw_row (a := 17) (k := 18446744073709551615) w x ⟨by decide, by decide, by decide, by decide, by decide⟩ row323 (by decide), show placeW 323 = perm 17 from by decide, if_neg (show ¬ perm 17 = 0 from by decide)]
  rw [show legalW 323 (f.r (perm 17)) x = x from rfl, if_neg (show ¬ ((17 = 6 ∨ 17 = 12) ∧ _) from fun q => absurd q.1 (by decide)), if_neg (show ¬ (17 = 18 ∧ _) from fun q => absurd q.1 (by decide)), and_all hx]
  exact h.set 17 (by decide) _
theorem step2816 {f w : VS} (h : Rel f w) (x : Nat) (hx : U x) : Rel (writeW f 2816 x) (rwriteW w 2816 x) := by
  rw [wr_row f x ⟨by decide, by decide, by decide, by decide, by decide⟩ (by decide), rw_row (a := 19) (k := 18446744073709551615) w x ⟨by decide, by decide, by decide, by decide, by decide⟩ row2816 (by decide), show placeW 2816 = perm 19 from by decide, if_neg (show ¬ perm 19 = 0 from by decide)]
  rw [show legalW 2816 (f.r (perm 19)) x = x from rfl, if_neg (show ¬ ((19 = 6 ∨ 19 = 12) ∧ _) from fun q => absurd q.1 (by decide)), if_neg (show ¬ (19 = 18 ∧ _) from fun q => absurd q.1 (by decide)), and_all hx]
  exact h.set 19 (by decide) _
theorem step2818 {f w : VS} (h : Rel f w) (x : Nat) (hx : U x) : Rel (writeW f 2818 x) (rwriteW w 2818 x) := by
  rw [wr_row f x ⟨by decide, by decide, by decide, by decide, by decide⟩ (by decide), rw_row (a := 20) (k := 18446744073709551615) w x ⟨by decide, by decide, by decide, by decide, by decide⟩ row2818 (by decide), show placeW 2818 = perm 20 from by decide, if_neg (show ¬ perm 20 = 0 from by decide)]
  rw [show legalW 2818 (f.r (perm 20)) x = x from rfl, if_neg (show ¬ ((20 = 6 ∨ 20 = 12) ∧ _) from fun q => absurd q.1 (by decide)), if_neg (show ¬ (20 = 18 ∧ _) from fun q => absurd q.1 (by decide)), and_all hx]
  exact h.set 20 (by decide) _
theorem step833 {f w : VS} (h : Rel f w) (x : Nat) (hx : U x) : Rel (writeW f 833 x) (rwriteW w 833 x) := by
  rw [wr_row f x ⟨by decide, by decide, by decide, by decide, by decide⟩ (by decide), rw_row (a := 9) (k := 18446744073709551612) w x ⟨by decide, by decide, by decide, by decide, by decide⟩ row833 (by decide), show placeW 833 = perm 9 from by decide, if_neg (show ¬ perm 9 = 0 from by decide)]
  rw [show legalW 833 (f.r (perm 9)) x = minus x 3 from rfl, if_neg (show ¬ ((9 = 6 ∨ 9 = 12) ∧ _) from fun q => absurd q.1 (by decide)), if_neg (show ¬ (9 = 18 ∧ _) from fun q => absurd q.1 (by decide))]
  exact h.set 9 (by decide) _
theorem step321 {f w : VS} (h : Rel f w) (x : Nat) (hx : U x) : Rel (writeW f 321 x) (rwriteW w 321 x) := by
  rw [wr_row f x ⟨by decide, by decide, by decide, by decide, by decide⟩ (by decide), rw_row (a := 15) (k := 18446744073709551612) w x ⟨by decide, by decide, by decide, by decide, by decide⟩ row321 (by decide), show placeW 321 = perm 15 from by decide, if_neg (show ¬ perm 15 = 0 from by decide)]
  rw [show legalW 321 (f.r (perm 15)) x = minus x 3 from rfl, if_neg (show ¬ ((15 = 6 ∨ 15 = 12) ∧ _) from fun q => absurd q.1 (by decide)), if_neg (show ¬ (15 = 18 ∧ _) from fun q => absurd q.1 (by decide))]
  exact h.set 15 (by decide) _
theorem step384 {f w : VS} (h : Rel f w) (x : Nat) (hx : U x) : Rel (writeW f 384 x) (rwriteW w 384 x) := by
  rw [wr_row f x ⟨by decide, by decide, by decide, by decide, by decide⟩ (by decide), rw_row (a := 18) (k := 18446744073709551615) w x ⟨by decide, by decide, by decide, by decide, by decide⟩ row384 (by decide), show placeW 384 = perm 18 from by decide, if_neg (show ¬ perm 18 = 0 from by decide)]
  have hl : legalW 384 (f.r (perm 18)) x = if getW x 60 4 = 0 ∨ getW x 60 4 = 8 then x else f.r (perm 18) := rfl
  rw [hl, if_neg (show ¬ ((18 = 6 ∨ 18 = 12) ∧ _) from fun q => absurd q.1 (by decide))]
  by_cases hb : getW x 60 4 = 0 ∨ getW x 60 4 = 8
  · rw [if_pos hb, if_neg (fun q => by rcases hb with e | e; exact q.2.1 e; exact q.2.2 e), and_all hx]
    exact h.set 18 (by decide) x
  · rw [if_neg hb, if_pos ⟨rfl, fun e => hb (.inl e), fun e => hb (.inr e)⟩]
    rw [VS.set_self]; exact h
theorem mix_one (h : U 8264106) : True := trivial
theorem Rel.write {f w : VS} (h : Rel f w) (n : Int) (x : Nat) (hx : U x) : Rel (writeW f n x) (rwriteW w n x) := by
  by_cases h1 : n = 768
  · subst h1
    unfold writeW rwriteW statusW
    rw [if_pos rfl, if_pos rfl]
    have e0 : f.r 1 = w.r 1 := h.r 0 (by decide)
    by_cases hg : getW x 11 2 = 2
    · rw [if_pos hg, if_pos hg, e0]
      exact h.set 0 (by decide) _
    · rw [if_neg hg, if_neg hg, e0]
      exact h.set 0 (by decide) _
  by_cases h2 : n = 256
  · subst h2
    have e0 : f.r 1 = w.r 1 := h.r 0 (by decide)
    have e1 : writeW f 256 x = statusW f x 786722 := rfl
    have e2 : rwriteW w 256 x = w.set 1 (mixW (w.r 1) x 786722) := rfl
    rw [e1, e2]
    unfold statusW
    have key : getW x 11 2 = 2 → minus 786722 6144 = 786722 := fun _ => by decide
    by_cases hg : getW x 11 2 = 2
    · rw [if_pos hg, key hg, e0]
      exact h.set 0 (by decide) _
    · rw [if_neg hg, e0]
      exact h.set 0 (by decide) _
  by_cases h3 : n = 836
  · subst h3
    exact h.set 1 (by decide) _
  by_cases h4 : n = 324
  · subst h4
    have e1 : f.r 5 = w.r 2 := h.r 1 (by decide)
    have e2 : f.r 3 = w.r 5 := h.r 4 (by decide)
    have e3 : writeW f 324 x = f.set 5 (minus (f.r 5) (f.r 3 &&& 2) ||| (x &&& (f.r 3 &&& 2))) := rfl
    have e4 : rwriteW w 324 x = w.set 2 (mixW (w.r 2) x (w.r 5 &&& 2)) := rfl
    rw [e3, e4, e1, e2]
    exact h.set 1 (by decide) _
  by_cases h5 : n = 260
  · subst h5
    have e1 : f.r 4 = w.r 6 := h.r 5 (by decide)
    have e2 : f.r 3 = w.r 5 := h.r 4 (by decide)
    have e3 : writeW f 260 x = f.set 4 (minus (f.r 4) (f.r 3) ||| (x &&& f.r 3)) := rfl
    have e4 : rwriteW w 260 x = w.set 6 (mixW (w.r 6) x (w.r 5)) := rfl
    rw [e3, e4, e1, e2]
    exact h.set 5 (by decide) _
  have hn : NotFive n := ⟨beq_no h1, beq_no h2, beq_no h3, beq_no h4, beq_no h5⟩
  by_cases hc : n = 3072 ∨ n = 3073 ∨ n = 3074
  · have e1 : writeW f n x = f := by unfold writeW; rw [if_neg h1, if_neg h2, if_neg h3, if_neg h4, if_neg h5, if_pos hc]
    have e2 : rwriteW w n x = w := rw_no w x hn (by rcases hc with rfl | rfl | rfl; rw [row3072]; simp; rw [row3073]; simp; rw [row3074]; simp)
    rw [e1, e2]; exact h
  by_cases c770 : n = 770
  · subst c770; exact step770 h x hx
  by_cases c771 : n = 771
  · subst c771; exact step771 h x hx
  by_cases c772 : n = 772
  · subst c772; exact step772 h x hx
  by_cases c773 : n = 773
  · subst c773; exact step773 h x hx
  by_cases c261 : n = 261
  · subst c261; exact step261 h x hx
  by_cases c774 : n = 774
  · subst c774; exact step774 h x hx
  by_cases c262 : n = 262
  · subst c262; exact step262 h x hx
  by_cases c832 : n = 832
  · subst c832; exact step832 h x hx
  by_cases c320 : n = 320
  · subst c320; exact step320 h x hx
  by_cases c834 : n = 834
  · subst c834; exact step834 h x hx
  by_cases c322 : n = 322
  · subst c322; exact step322 h x hx
  by_cases c835 : n = 835
  · subst c835; exact step835 h x hx
  by_cases c323 : n = 323
  · subst c323; exact step323 h x hx
  by_cases c2816 : n = 2816
  · subst c2816; exact step2816 h x hx
  by_cases c2818 : n = 2818
  · subst c2818; exact step2818 h x hx
  by_cases c833 : n = 833
  · subst c833; exact step833 h x hx
  by_cases c321 : n = 321
  · subst c321; exact step321 h x hx
  by_cases c384 : n = 384
  · subst c384; exact step384 h x hx
  have hp : placeW n = 0 := by
    simp only [not_or] at hc
    unfold placeW superW
    simp [hc, c770, c771, c772, c773, c261, c774, c262, c832, c320, c834, c322, c835, c323, c2816, c2818, c833, c321, c384]
  have e1 : writeW f n x = f := by rw [wr_row f x hn hc, if_pos hp]
  have e2 : rwriteW w n x = w := by
    apply rw_no w x hn
    by_cases hi : n ∈ nums
    · simp only [nums, List.mem_cons, List.not_mem_nil, or_false] at hi
      simp only [not_or] at hc
      simp only [h1, h2, h3, h4, h5, hc, c770, c771, c772, c773, c261, c774, c262, c832, c320, c834, c322, c835, c323, c2816, c2818, c833, c321, c384, false_or, or_false] at hi
      rcases hi with rfl | rfl | rfl | rfl | rfl
      · rw [row769]; simp
      · rw [row3857]; simp
      · rw [row3858]; simp
      · rw [row3859]; simp
      · rw [row3860]; simp
    · exact .inl (ofR_no hi)
  rw [e1, e2]; exact h
theorem Rel.fold {xs : List WR} (hx : wrOk xs) : ∀ k, Rel (foldF xs k) (foldR xs k)
  | 0 => Rel.vs0
  | k + 1 => (Rel.fold hx k).write _ _ (wrOk_at hx k).2
theorem Rel.bg {xs : List WR} (hx : wrOk xs) (m : Int) (l : Nat) : Rel (bgF m xs l) (bgR m xs l) := ((Rel.fold hx _).set 2 (by decide) _).mode m
end Go.Proofs.Ytnknfepbekaobaa.H
/- One bit of a word set and cleared, and the mode that it keeps: plain. -/
namespace Go.Proofs.Ytnknfepbekaobaa.H
open Go.RowKit Go.Proofs.YtnknfepbekaobaaW.PrintWords Go.Proofs.YtnknfepbekaobaaW.PrintLast Go.Proofs.Ytnknfepbekaobaa.PAl Go.Proofs.Ytnknfepbekaobaa.Pure Go.Proofs.Ytnknfepbekaobaa.Vw
set_option linter.unusedVariables false
set_option linter.unusedSimpArgs false
theorem tbP (x a n v i : Nat) (ha : a ≤ 63) (hn : n ≤ 64) : (putW x (a : Int) (n : Int) v).testBit i = (decide (i < 64) && if a ≤ i ∧ i < a + n then v.testBit (i - a) else x.testBit i) := by
  unfold putW
  have ec : cnt (n : Int) = n := by unfold cnt; omega
  rw [if_pos (by omega), testBit_ob, Int.toNat_natCast, ec]
theorem put_one {x : Nat} (hx : U x) {B : Nat} (hB : B ≤ 63) : putW x (B : Int) 1 1 = x ||| 2 ^ B := by
  apply eq64 (putW_lt hx.lt _ _ _) (or_lt hx.lt (U.pow hB).lt)
  intro i hi
  have := tbP x B 1 1 i hB (by decide)
  rw [show ((1 : Nat) : Int) = 1 from rfl] at this
  rw [this, Nat.testBit_or, Nat.testBit_two_pow]
  by_cases h : B = i
  · subst h
    rw [if_pos ⟨Nat.le_refl _, by omega⟩, Nat.sub_self]; simp [hi]
  · rw [if_neg (by omega)]; simp [hi, h]
theorem put_nought {x : Nat} (hx : U x) {B : Nat} (hB : B ≤ 63) : putW x (B : Int) 1 0 = minus x (2 ^ B) := by
  apply eq64 (putW_lt hx.lt _ _ _) (hx.minus).lt
  intro i hi
  have := tbP x B 1 0 i hB (by decide)
  rw [show ((1 : Nat) : Int) = 1 from rfl] at this
  unfold minus
  rw [this, Nat.testBit_and, tb_not _ _ (U.pow hB).lt, Nat.testBit_two_pow]
  by_cases h : B = i
  · subst h
    rw [if_pos ⟨Nat.le_refl _, by omega⟩]; simp
  · rw [if_neg (by omega)]; simp [hi, h]
theorem minus_or {x : Nat} (hx : U x) {B : Nat} (hB : B ≤ 63) : minus (x ||| 2 ^ B) (2 ^ B) = minus x (2 ^ B) := by
  apply eq64 (hx.or (U.pow hB)).minus.lt hx.minus.lt
  intro i hi
  unfold minus
  rw [Nat.testBit_and, Nat.testBit_and, Nat.testBit_or, tb_not _ _ (U.pow hB).lt, Nat.testBit_two_pow]
  by_cases h : B = i
  · simp [h]
  · simp [h]
theorem bit_or {x B : Nat} (hB : B ≤ 63) : bitW (x ||| 2 ^ B) (B : Int) = true := by
  unfold bitW
  rw [Int.toNat_natCast, Nat.testBit_or, Nat.testBit_two_pow, decide_eq_true (by omega)]; simp
theorem bit_minus {x B : Nat} (hB : B ≤ 63) : bitW (minus x (2 ^ B)) (B : Int) = false := by
  unfold bitW minus
  rw [Int.toNat_natCast, Nat.testBit_and, tb_not _ _ (U.pow hB).lt, Nat.testBit_two_pow]; simp
theorem get_put_mode {x K : Nat} (hx : U x) (hK : K ≤ 3) : getW (putW x 11 2 K) 11 2 = K := by
  have h1 : getW (putW x 11 2 K) 11 2 < 2 ^ 2 := by
    unfold getW; rw [if_pos (by decide)]; exact Nat.mod_lt _ (by decide)
  apply eq_of_bits (n := 2) h1 (by omega)
  intro i hi
  have h2 := tb_getW (putW x 11 2 K) 11 2 i
  have h3 := tbP x 11 2 K (11 + i) (by decide) (by decide)
  rw [show ((11 : Nat) : Int) = 11 from rfl, show ((2 : Nat) : Int) = 2 from rfl] at h3
  rw [h2, show (11 : Int).toNat = 11 from rfl, h3, if_pos (by omega), show 11 + i - 11 = i by omega, decide_eq_true (show (0 : Int) ≤ 11 ∧ (11 : Int) ≤ 63 by decide), decide_eq_true (show i < cnt 2 by show i < 2; exact hi), decide_eq_true (show 11 + i < 64 by omega)]
  simp
end Go.Proofs.Ytnknfepbekaobaa.H
