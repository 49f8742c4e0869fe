/- Words for regions that draw their order, walked order by order by hand. -/
import Derived.Test.YtnompdckpenfgaaHkp
namespace Go.Proofs.Ytnompdckpenfgaa.H
open Go.RowKit Go.Proofs.YtnompdckpenfgaaW.PrintWords Go.Proofs.YtnompdckpenfgaaW.PrintLast Go.Proofs.Ytnompdckpenfgaa.PAl
set_option linter.unusedVariables false
set_option linter.unusedSimpArgs false
section
variable {P : Program} {md : Region.Mode} {ops : Array Oper} {Q : Exit → Act → World → Prop}
theorem wanted_none {o : Oper} (hg : o.guard = none) (y : _) : Region.wanted o y = true := by unfold Region.wanted; rw [hg]
theorem op_in {i : Nat} {o : Oper} {a : Act} {w : World} {K : Act → World → Prop} (ho : ops[i]? = some o) (hg : o.guard = none) (h : o.wp P a w K Q) : wpOp P ops Q i K a w := by
  unfold wpOp; rw [ho]; dsimp only; rw [if_pos (wanted_none hg _)]; exact .inl h
theorem any_1 {i : Nat} {o : Oper} {fuel : Nat} {listed : Array Bool} {a : Act} {w : World} (hr : Region.ready md ops listed = [i]) (ho : ops[i]? = some o) (hg : o.guard = none)
    (h : o.wp P a w (wpAny P md ops Q fuel (listed.setIfInBounds i true)) Q) : wpAny P md ops Q (fuel + 1) listed a w :=
  wpAny_all hr (by simp) fun k hk => by
    have : k = i := by simpa using hk
    subst this; exact op_in ho hg h
theorem any_2 {i j : Nat} {o o' : Oper} {fuel : Nat} {listed : Array Bool} {a : Act} {w : World} (hr : Region.ready md ops listed = [i, j]) (ho : ops[i]? = some o) (hg : o.guard = none) (ho' : ops[j]? = some o') (hg' : o'.guard = none)
    (h : o.wp P a w (wpAny P md ops Q fuel (listed.setIfInBounds i true)) Q) (h' : o'.wp P a w (wpAny P md ops Q fuel (listed.setIfInBounds j true)) Q) : wpAny P md ops Q (fuel + 1) listed a w :=
  wpAny_all hr (by simp) fun k hk => by
    have : k = i ∨ k = j := by simpa using hk
    rcases this with rfl | rfl
    · exact op_in ho hg h
    · exact op_in ho' hg' h'
theorem wp_ld {o : Oper} {a : Act} {w : World} {K : Act → World → Prop} {ty : TypeId} {x : Operand} (ho : o.op = .load ty x) (g : Nat) (hx : a.eval x = .pointer (some ⟨g, 0, none⟩)) (t : TypeId) (cs : Array Value) (d : TypeDesc)
    (hg : w.heap[g]? = some (.cells cs t (0, 0))) (hu : P.underlying ty = some d) (hd : (match d with | .struct _ | .array _ _ => true | _ => false) = true) (hi : (P.info? ty).map (·.size) = some cs.size)
    (h : K (a.put o.dst (.agg cs)) w) : o.wp P a w K Q := wp_load_row ty x ho g hx t cs (0, 0) d hg hu hd hi h
theorem wp_st {o : Oper} {a : Act} {w : World} {K : Act → World → Prop} {ty : TypeId} {x y : Operand} (ho : o.op = .store ty x y) (hN : o.dst = none) (g : Nat) (cs old : Array Value) (t : TypeId)
    (hx : a.eval x = .pointer (some ⟨g, 0, none⟩)) (hy : a.eval y = .agg cs) (hg : w.heap[g]? = some (.cells old t (0, 0))) (hi : (P.info? ty).map (·.size) = some cs.size)
    (hold : old.size = cs.size) (h1 : cs.all (·.oneCell') = true) (h : ∀ w1, w1.heap[g]? = some (.cells cs t (0, 0)) → Kp w w1 (fun i => i = g) → K a w1) : o.wp P a w K Q :=
  wp_store_row ty x y ho g cs hx hy t old hg hi hold h1 (by rw [hN]; exact h _ (setRow_blk hg) ((Kp.refl _ _).setRow g cs (.inl rfl)))
theorem wp_as {o : Oper} {a : Act} {w : World} {K : Act → World → Prop} {x : Operand} (ho : o.op = .assign x) (h : K (a.put o.dst (a.eval x)) w) : o.wp P a w K Q := by
  unfold Oper.wp execOp
  simp only [ho]
  exact h
/-- Two variables handed back: 'return f, w, true'. -/
theorem two_out {P : Program} {id : Nat} {Q : Exit → Act → World → Prop} {a : Act} {w : World} {o0 o1 o2 o3 o4 : Oper} (hm : P.follows .mixedOrders = true)
    (n0 : o0.guard = none) (n1 : o1.guard = none) (n2 : o2.guard = none) (n3 : o3.guard = none) (n4 : o4.guard = none)
    (r0 : Region.ready .any #[o0, o1, o2, o3, o4] #[false, false, false, false, false] = [0, 1])
    (r1 : Region.ready .any #[o0, o1, o2, o3, o4] #[true, false, false, false, false] = [1, 2])
    (r2 : Region.ready .any #[o0, o1, o2, o3, o4] #[false, true, false, false, false] = [0])
    (r3 : Region.ready .any #[o0, o1, o2, o3, o4] #[true, true, false, false, false] = [2])
    (r4 : Region.ready .any #[o0, o1, o2, o3, o4] #[true, false, true, false, false] = [1])
    (r5 : Region.ready .any #[o0, o1, o2, o3, o4] #[true, true, true, false, false] = [3])
    (r6 : Region.ready .any #[o0, o1, o2, o3, o4] #[true, true, true, true, false] = [4])
    (r7 : Region.ready .any #[o0, o1, o2, o3, o4] #[true, true, true, true, true] = [])
    {T0 T1 : TypeId} {x0 x1 x2 x3 y2 y3 x4 : Operand} {D0 D1 : TypeDesc}
    (e0 : o0.op = .load T0 x0) (e1 : o1.op = .load T1 x1) (e2 : o2.op = .store T0 x2 y2) (e3 : o3.op = .store T1 x3 y3) (e4 : o4.op = .assign x4) (d2 : o2.dst = none) (d3 : o3.dst = none)
    (u0 : P.underlying T0 = some D0) (u1 : P.underlying T1 = some D1) (q0 : (match D0 with | .struct _ | .array _ _ => true | _ => false) = true) (q1 : (match D1 with | .struct _ | .array _ _ => true | _ => false) = true)
    (f0 f1 g0 g1 : Nat) (c0 c1 z0 z1 : Array Value)
    (i0 : (P.info? T0).map (·.size) = some c0.size) (i1 : (P.info? T1).map (·.size) = some c1.size) (s0 : z0.size = c0.size) (s1 : z1.size = c1.size) (v0 : c0.all (·.oneCell') = true) (v1 : c1.all (·.oneCell') = true)
    (b0 : w.heap[f0]? = some (.cells c0 T0 (0, 0))) (b1 : w.heap[f1]? = some (.cells c1 T1 (0, 0))) (b2 : w.heap[g0]? = some (.cells z0 T0 (0, 0))) (b3 : w.heap[g1]? = some (.cells z1 T1 (0, 0))) (ne1 : f1 ≠ g0) (ne2 : g1 ≠ g0)
    (p0 : a.eval x0 = .pointer (some ⟨f0, 0, none⟩)) (p1 : (a.put o0.dst (.agg c0)).eval x1 = .pointer (some ⟨f1, 0, none⟩)) (p1' : a.eval x1 = .pointer (some ⟨f1, 0, none⟩)) (p0' : (a.put o1.dst (.agg c1)).eval x0 = .pointer (some ⟨f0, 0, none⟩))
    (comm : (a.put o1.dst (.agg c1)).put o0.dst (.agg c0) = (a.put o0.dst (.agg c0)).put o1.dst (.agg c1))
    (p2 : (a.put o0.dst (.agg c0)).eval x2 = .pointer (some ⟨g0, 0, none⟩)) (p3 : (a.put o0.dst (.agg c0)).eval y2 = .agg c0)
    (p4 : ((a.put o0.dst (.agg c0)).put o1.dst (.agg c1)).eval x2 = .pointer (some ⟨g0, 0, none⟩)) (p5 : ((a.put o0.dst (.agg c0)).put o1.dst (.agg c1)).eval y2 = .agg c0)
    (p6 : ((a.put o0.dst (.agg c0)).put o1.dst (.agg c1)).eval x3 = .pointer (some ⟨g1, 0, none⟩)) (p7 : ((a.put o0.dst (.agg c0)).put o1.dst (.agg c1)).eval y3 = .agg c1)
    (h : ∀ w2, w2.heap[g0]? = some (.cells c0 T0 (0, 0)) → w2.heap[g1]? = some (.cells c1 T1 (0, 0)) → Kp w w2 (fun i => i = g0 ∨ i = g1) →
      Q .normal (((a.put o0.dst (.agg c0)).put o1.dst (.agg c1)).put o4.dst (((a.put o0.dst (.agg c0)).put o1.dst (.agg c1)).eval x4)) w2) :
    (Code.region id #[o0, o1, o2, o3, o4] true).wp P Q a w := by
  have last : ∀ w1, w1.heap[g0]? = some (.cells c0 T0 (0, 0)) → w1.heap[g1]? = some (.cells z1 T1 (0, 0)) → Kp w w1 (fun i => i = g0) →
      wpAny P .any #[o0, o1, o2, o3, o4] Q 2 #[true, true, true, false, false] ((a.put o0.dst (.agg c0)).put o1.dst (.agg c1)) w1 := fun w1 t0 t1 k1 =>
    any_1 r5 rfl n3 (wp_st e3 d3 g1 c1 z1 T1 p6 p7 t1 i1 s1 v1 fun w2 t2 k2 =>
      any_1 r6 rfl n4 (wp_as e4 (wpAny_done r7 (h w2 ((k2.block g0 (blk_lt t0) (fun e : g0 = g1 => ne2 e.symm)).trans t0) t2 ((k1.mono fun _ _ e => .inl e).then k2 fun _ _ e => .inr e)) _)))
  refine wp_region_any hm ?_
  show wpAny P .any #[o0, o1, o2, o3, o4] Q 5 #[false, false, false, false, false] a w.drew
  have kd : Kp w w.drew (fun i => i = g0) := (Kp.refl _ _).drew
  refine any_2 r0 rfl n0 rfl n1 ?_ ?_
  · refine wp_ld e0 f0 p0 T0 c0 D0 b0 u0 q0 i0 ?_
    refine any_2 r1 rfl n1 rfl n2 ?_ ?_
    · refine wp_ld e1 f1 p1 T1 c1 D1 b1 u1 q1 i1 ?_
      refine any_1 r3 rfl n2 (wp_st e2 d2 g0 c0 z0 T0 p4 p5 b2 i0 s0 v0 fun w1 t0 k1 => ?_)
      exact last w1 t0 ((k1.block g1 (blk_lt b3) ne2).trans b3) (kd.trans k1)
    · refine wp_st e2 d2 g0 c0 z0 T0 p2 p3 b2 i0 s0 v0 fun w1 t0 k1 => ?_
      refine any_1 r4 rfl n1 (wp_ld e1 f1 p1 T1 c1 D1 ((k1.block f1 (blk_lt b1) ne1).trans b1) u1 q1 i1 ?_)
      exact last w1 t0 ((k1.block g1 (blk_lt b3) ne2).trans b3) (kd.trans k1)
  · refine wp_ld e1 f1 p1' T1 c1 D1 b1 u1 q1 i1 ?_
    refine any_1 r2 rfl n0 (wp_ld e0 f0 p0' T0 c0 D0 b0 u0 q0 i0 ?_)
    show wpAny P .any #[o0, o1, o2, o3, o4] Q 3 #[true, true, false, false, false] ((a.put o1.dst (.agg c1)).put o0.dst (.agg c0)) w.drew
    rw [comm]
    refine any_1 r3 rfl n2 (wp_st e2 d2 g0 c0 z0 T0 p4 p5 b2 i0 s0 v0 fun w1 t0 k1 => ?_)
    exact last w1 t0 ((k1.block g1 (blk_lt b3) ne2).trans b3) (kd.trans k1)
theorem results_cct {P : Program} {fn : Func} {p0 p1 p2 : Tmp} {T0 T1 : TypeId} (h : fn.results = #[.cell p0 T0, .cell p1 T1, .tmp p2]) (tmps : Array Value) (w : World) (g0 g1 : Nat) (c0 c1 : Array Value) (v : Value) (d0 d1 : TypeDesc)
    (h0 : tmps.getD p0 undef = .pointer (some ⟨g0, 0, none⟩)) (h1 : tmps.getD p1 undef = .pointer (some ⟨g1, 0, none⟩)) (h2 : tmps.getD p2 undef = v)
    (b0 : w.heap[g0]? = some (.cells c0 T0 (0, 0))) (b1 : w.heap[g1]? = some (.cells c1 T1 (0, 0)))
    (u0 : P.underlying T0 = some d0) (u1 : P.underlying T1 = some d1) (q0 : (match d0 with | .struct _ | .array _ _ => true | _ => false) = true) (q1 : (match d1 with | .struct _ | .array _ _ => true | _ => false) = true)
    (i0 : (P.info? T0).map (·.size) = some c0.size) (i1 : (P.info? T1).map (·.size) = some c1.size) :
    (results fn tmps).run P w = .ok (.tuple #[.agg c0, .agg c1, v]) w := by
  have h0' : tmps[p0]?.getD undef = .pointer (some ⟨g0, 0, none⟩) := by simpa using h0
  have h1' : tmps[p1]?.getD undef = .pointer (some ⟨g1, 0, none⟩) := by simpa using h1
  have h2' : tmps[p2]?.getD undef = v := by simpa using h2
  simp [results, h, h0', h1', h2', asAddr, run_loadVar_row w g0 T0 T0 c0 (0, 0) d0 b0 u0 q0 i0, run_loadVar_row w g1 T1 T1 c1 (0, 0) d1 b1 u1 q1 i1]
theorem wpStill_ld {P : Program} {ops : Array Oper} {w : World} {Q : Act → Prop} {a : Act} {o : Oper} {rest : List Oper} (hgd : o.guard = none) {ty : TypeId} {x : Operand} (ho : o.op = .load ty x) (g : Nat) (hx : a.eval x = .pointer (some ⟨g, 0, none⟩)) (t : TypeId) (cs : Array Value) (d : TypeDesc)
    (hg : w.heap[g]? = some (.cells cs t (0, 0))) (hu : P.underlying ty = some d) (hd : (match d with | .struct _ | .array _ _ => true | _ => false) = true) (hi : (P.info? ty).map (·.size) = some cs.size)
    (h : wpStill P ops w Q rest (a.put o.dst (.agg cs))) : wpStill P ops w Q (o :: rest) a := by
  unfold wpStill
  rw [if_pos (wanted_none hgd _)]
  unfold Oper.still execOp
  simp only [ho, hx, Instr.loadAt, Instr.sureAddr, Sem.run_bind, Sem.run_pure, Result.andThen_ok, run_loadVar_row w g t ty cs (0, 0) d hg hu hd hi]
  exact ⟨rfl, h⟩
end
end Go.Proofs.Ytnompdckpenfgaa.H
