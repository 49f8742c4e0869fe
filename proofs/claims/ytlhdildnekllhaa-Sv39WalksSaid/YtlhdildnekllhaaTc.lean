/- Regions that draw their order, and the memory of the statements (vireolaw10.memory), walked by hand. -/
import Derived.Test.YtlhdildnekllhaaTb
import Derived.StillTail
/- Words for regions that draw their order, walked order by order by hand. -/
namespace Go.Proofs.Ytlhdildnekllhaa.H
open Go.RowKit Go.Proofs.YtlhdildnekllhaaW.PrintWords Go.Proofs.YtlhdildnekllhaaW.PrintLast Go.Proofs.Ytlhdildnekllhaa.PAl
set_option linter.unusedVariables false
set_option linter.unusedSimpArgs false
section
variable {P : Program} {md : Region.Mode} {ops : Array Oper} {Q : Exit → Act → World → Prop}
theorem wanted_none {o : Oper} (hg : o.guard = none) (y : _) : Region.wanted o y = true := by unfold Region.wanted; rw [hg]
theorem op_in {i : Nat} {o : Oper} {a : Act} {w : World} {K : Act → World → Prop} (ho : ops[i]? = some o) (hg : o.guard = none) (h : o.wp P a w K Q) : wpOp P ops Q i K a w := by
  unfold wpOp; rw [ho]; dsimp only; rw [if_pos (wanted_none hg _)]; exact .inl h
theorem any_1 {i : Nat} {o : Oper} {fuel : Nat} {listed : Array Bool} {a : Act} {w : World} (hr : Region.ready md ops listed = [i]) (ho : ops[i]? = some o) (hg : o.guard = none)
    (h : o.wp P a w (wpAny P md ops Q fuel (listed.setIfInBounds i true)) Q) : wpAny P md ops Q (fuel + 1) listed a w :=
  wpAny_all hr (by simp) fun k hk => by
    have : k = i := by simpa using hk
    subst this; exact op_in ho hg h
theorem any_2 {i j : Nat} {o o' : Oper} {fuel : Nat} {listed : Array Bool} {a : Act} {w : World} (hr : Region.ready md ops listed = [i, j]) (ho : ops[i]? = some o) (hg : o.guard = none) (ho' : ops[j]? = some o') (hg' : o'.guard = none)
    (h : o.wp P a w (wpAny P md ops Q fuel (listed.setIfInBounds i true)) Q) (h' : o'.wp P a w (wpAny P md ops Q fuel (listed.setIfInBounds j true)) Q) : wpAny P md ops Q (fuel + 1) listed a w :=
  wpAny_all hr (by simp) fun k hk => by
    have : k = i ∨ k = j := by simpa using hk
    rcases this with rfl | rfl
    · exact op_in ho hg h
    · exact op_in ho' hg' h'
theorem wp_ld {o : Oper} {a : Act} {w : World} {K : Act → World → Prop} {ty : TypeId} {x : Operand} (ho : o.op = .load ty x) (g : Nat) (hx : a.eval x = .pointer (some ⟨g, 0, none⟩)) (t : TypeId) (cs : Array Value) (d : TypeDesc)
    (hg : w.heap[g]? = some (.cells cs t (0, 0))) (hu : P.underlying ty = some d) (hd : (match d with | .struct _ | .array _ _ => true | _ => false) = true) (hi : (P.info? ty).map (·.size) = some cs.size)
    (h : K (a.put o.dst (.agg cs)) w) : o.wp P a w K Q := wp_load_row ty x ho g hx t cs (0, 0) d hg hu hd hi h
theorem wp_st {o : Oper} {a : Act} {w : World} {K : Act → World → Prop} {ty : TypeId} {x y : Operand} (ho : o.op = .store ty x y) (hN : o.dst = none) (g : Nat) (cs old : Array Value) (t : TypeId)
    (hx : a.eval x = .pointer (some ⟨g, 0, none⟩)) (hy : a.eval y = .agg cs) (hg : w.heap[g]? = some (.cells old t (0, 0))) (hi : (P.info? ty).map (·.size) = some cs.size)
    (hold : old.size = cs.size) (h1 : cs.all (·.oneCell') = true) (h : ∀ w1, w1.heap[g]? = some (.cells cs t (0, 0)) → Kp w w1 (fun i => i = g) → K a w1) : o.wp P a w K Q :=
  wp_store_row ty x y ho g cs hx hy t old hg hi hold h1 (by rw [hN]; exact h _ (setRow_blk hg) ((Kp.refl _ _).setRow g cs (.inl rfl)))
theorem wp_as {o : Oper} {a : Act} {w : World} {K : Act → World → Prop} {x : Operand} (ho : o.op = .assign x) (h : K (a.put o.dst (a.eval x)) w) : o.wp P a w K Q := by
  unfold Oper.wp execOp
  simp only [ho]
  exact h
/-- Two variables handed back: 'return f, w, true'. -/
theorem two_out {P : Program} {id : Nat} {Q : Exit → Act → World → Prop} {a : Act} {w : World} {o0 o1 o2 o3 o4 : Oper} (hm : P.follows .mixedOrders = true)
    (n0 : o0.guard = none) (n1 : o1.guard = none) (n2 : o2.guard = none) (n3 : o3.guard = none) (n4 : o4.guard = none)
    (r0 : Region.ready .any #[o0, o1, o2, o3, o4] #[false, false, false, false, false] = [0, 1])
    (r1 : Region.ready .any #[o0, o1, o2, o3, o4] #[true, false, false, false, false] = [1, 2])
    (r2 : Region.ready .any #[o0, o1, o2, o3, o4] #[false, true, false, false, false] = [0])
    (r3 : Region.ready .any #[o0, o1, o2, o3, o4] #[true, true, false, false, false] = [2])
    (r4 : Region.ready .any #[o0, o1, o2, o3, o4] #[true, false, true, false, false] = [1])
    (r5 : Region.ready .any #[o0, o1, o2, o3, o4] #[true, true, true, false, false] = [3])
    (r6 : Region.ready .any #[o0, o1, o2, o3, o4] #[true, true, true, true, false] = [4])
    (r7 : Region.ready .any #[o0, o1, o2, o3, o4] #[true, true, true, true, true] = [])
    {T0 T1 : TypeId} {x0 x1 x2 x3 y2 y3 x4 : Operand} {D0 D1 : TypeDesc}
    (e0 : o0.op = .load T0 x0) (e1 : o1.op = .load T1 x1) (e2 : o2.op = .store T0 x2 y2) (e3 : o3.op = .store T1 x3 y3) (e4 : o4.op = .assign x4) (d2 : o2.dst = none) (d3 : o3.dst = none)
    (u0 : P.underlying T0 = some D0) (u1 : P.underlying T1 = some D1) (q0 : (match D0 with | .struct _ | .array _ _ => true | _ => false) = true) (q1 : (match D1 with | .struct _ | .array _ _ => true | _ => false) = true)
    (f0 f1 g0 g1 : Nat) (c0 c1 z0 z1 : Array Value)
    (i0 : (P.info? T0).map (·.size) = some c0.size) (i1 : (P.info? T1).map (·.size) = some c1.size) (s0 : z0.size = c0.size) (s1 : z1.size = c1.size) (v0 : c0.all (·.oneCell') = true) (v1 : c1.all (·.oneCell') = true)
    (b0 : w.heap[f0]? = some (.cells c0 T0 (0, 0))) (b1 : w.heap[f1]? = some (.cells c1 T1 (0, 0))) (b2 : w.heap[g0]? = some (.cells z0 T0 (0, 0))) (b3 : w.heap[g1]? = some (.cells z1 T1 (0, 0))) (ne1 : f1 ≠ g0) (ne2 : g1 ≠ g0)
    (p0 : a.eval x0 = .pointer (some ⟨f0, 0, none⟩)) (p1 : (a.put o0.dst (.agg c0)).eval x1 = .pointer (some ⟨f1, 0, none⟩)) (p1' : a.eval x1 = .pointer (some ⟨f1, 0, none⟩)) (p0' : (a.put o1.dst (.agg c1)).eval x0 = .pointer (some ⟨f0, 0, none⟩))
    (comm : (a.put o1.dst (.agg c1)).put o0.dst (.agg c0) = (a.put o0.dst (.agg c0)).put o1.dst (.agg c1))
    (p2 : (a.put o0.dst (.agg c0)).eval x2 = .pointer (some ⟨g0, 0, none⟩)) (p3 : (a.put o0.dst (.agg c0)).eval y2 = .agg c0)
    (p4 : ((a.put o0.dst (.agg c0)).put o1.dst (.agg c1)).eval x2 = .pointer (some ⟨g0, 0, none⟩)) (p5 : ((a.put o0.dst (.agg c0)).put o1.dst (.agg c1)).eval y2 = .agg c0)
    (p6 : ((a.put o0.dst (.agg c0)).put o1.dst (.agg c1)).eval x3 = .pointer (some ⟨g1, 0, none⟩)) (p7 : ((a.put o0.dst (.agg c0)).put o1.dst (.agg c1)).eval y3 = .agg c1)
    (h : ∀ w2, w2.heap[g0]? = some (.cells c0 T0 (0, 0)) → w2.heap[g1]? = some (.cells c1 T1 (0, 0)) → Kp w w2 (fun i => i = g0 ∨ i = g1) →
      Q .normal (((a.put o0.dst (.agg c0)).put o1.dst (.agg c1)).put o4.dst (((a.put o0.dst (.agg c0)).put o1.dst (.agg c1)).eval x4)) w2) :
    (Code.region id #[o0, o1, o2, o3, o4] true).wp P Q a w := by
  have last : ∀ w1, w1.heap[g0]? = some (.cells c0 T0 (0, 0)) → w1.heap[g1]? = some (.cells z1 T1 (0, 0)) → Kp w w1 (fun i => i = g0) →
      wpAny P .any #[o0, o1, o2, o3, o4] Q 2 #[true, true, true, false, false] ((a.put o0.dst (.agg c0)).put o1.dst (.agg c1)) w1 := fun w1 t0 t1 k1 =>
    any_1 r5 rfl n3 (wp_st e3 d3 g1 c1 z1 T1 p6 p7 t1 i1 s1 v1 fun w2 t2 k2 =>
      any_1 r6 rfl n4 (wp_as e4 (wpAny_done r7 (h w2 ((k2.block g0 (blk_lt t0) (fun e : g0 = g1 => ne2 e.symm)).trans t0) t2 ((k1.mono fun _ _ e => .inl e).then k2 fun _ _ e => .inr e)) _)))
  refine wp_region_any hm ?_
  show wpAny P .any #[o0, o1, o2, o3, o4] Q 5 #[false, false, false, false, false] a w.drew
  have kd : Kp w w.drew (fun i => i = g0) := (Kp.refl _ _).drew
  refine any_2 r0 rfl n0 rfl n1 ?_ ?_
  · refine wp_ld e0 f0 p0 T0 c0 D0 b0 u0 q0 i0 ?_
    refine any_2 r1 rfl n1 rfl n2 ?_ ?_
    · refine wp_ld e1 f1 p1 T1 c1 D1 b1 u1 q1 i1 ?_
      refine any_1 r3 rfl n2 (wp_st e2 d2 g0 c0 z0 T0 p4 p5 b2 i0 s0 v0 fun w1 t0 k1 => ?_)
      exact last w1 t0 ((k1.block g1 (blk_lt b3) ne2).trans b3) (kd.trans k1)
    · refine wp_st e2 d2 g0 c0 z0 T0 p2 p3 b2 i0 s0 v0 fun w1 t0 k1 => ?_
      refine any_1 r4 rfl n1 (wp_ld e1 f1 p1 T1 c1 D1 ((k1.block f1 (blk_lt b1) ne1).trans b1) u1 q1 i1 ?_)
      exact last w1 t0 ((k1.block g1 (blk_lt b3) ne2).trans b3) (kd.trans k1)
  · refine wp_ld e1 f1 p1' T1 c1 D1 b1 u1 q1 i1 ?_
    refine any_1 r2 rfl n0 (wp_ld e0 f0 p0' T0 c0 D0 b0 u0 q0 i0 ?_)
    show wpAny P .any #[o0, o1, o2, o3, o4] Q 3 #[true, true, false, false, false] ((a.put o1.dst (.agg c1)).put o0.dst (.agg c0)) w.drew
    rw [comm]
    refine any_1 r3 rfl n2 (wp_st e2 d2 g0 c0 z0 T0 p4 p5 b2 i0 s0 v0 fun w1 t0 k1 => ?_)
    exact last w1 t0 ((k1.block g1 (blk_lt b3) ne2).trans b3) (kd.trans k1)
theorem results_cct {P : Program} {fn : Func} {p0 p1 p2 : Tmp} {T0 T1 : TypeId} (h : fn.results = #[.cell p0 T0, .cell p1 T1, .tmp p2]) (tmps : Array Value) (w : World) (g0 g1 : Nat) (c0 c1 : Array Value) (v : Value) (d0 d1 : TypeDesc)
    (h0 : tmps.getD p0 undef = .pointer (some ⟨g0, 0, none⟩)) (h1 : tmps.getD p1 undef = .pointer (some ⟨g1, 0, none⟩)) (h2 : tmps.getD p2 undef = v)
    (b0 : w.heap[g0]? = some (.cells c0 T0 (0, 0))) (b1 : w.heap[g1]? = some (.cells c1 T1 (0, 0)))
    (u0 : P.underlying T0 = some d0) (u1 : P.underlying T1 = some d1) (q0 : (match d0 with | .struct _ | .array _ _ => true | _ => false) = true) (q1 : (match d1 with | .struct _ | .array _ _ => true | _ => false) = true)
    (i0 : (P.info? T0).map (·.size) = some c0.size) (i1 : (P.info? T1).map (·.size) = some c1.size) :
    (results fn tmps).run P w = .ok (.tuple #[.agg c0, .agg c1, v]) w := by
  have h0' : tmps[p0]?.getD undef = .pointer (some ⟨g0, 0, none⟩) := by simpa using h0
  have h1' : tmps[p1]?.getD undef = .pointer (some ⟨g1, 0, none⟩) := by simpa using h1
  have h2' : tmps[p2]?.getD undef = v := by simpa using h2
  simp [results, h, h0', h1', h2', asAddr, run_loadVar_row w g0 T0 T0 c0 (0, 0) d0 b0 u0 q0 i0, run_loadVar_row w g1 T1 T1 c1 (0, 0) d1 b1 u1 q1 i1]
theorem wpStill_ld {P : Program} {ops : Array Oper} {w : World} {Q : Act → Prop} {a : Act} {o : Oper} {rest : List Oper} (hgd : o.guard = none) {ty : TypeId} {x : Operand} (ho : o.op = .load ty x) (g : Nat) (hx : a.eval x = .pointer (some ⟨g, 0, none⟩)) (t : TypeId) (cs : Array Value) (d : TypeDesc)
    (hg : w.heap[g]? = some (.cells cs t (0, 0))) (hu : P.underlying ty = some d) (hd : (match d with | .struct _ | .array _ _ => true | _ => false) = true) (hi : (P.info? ty).map (·.size) = some cs.size)
    (h : wpStill P ops w Q rest (a.put o.dst (.agg cs))) : wpStill P ops w Q (o :: rest) a := by
  unfold wpStill
  rw [if_pos (wanted_none hgd _)]
  unfold Oper.still execOp
  simp only [ho, hx, Instr.loadAt, Instr.sureAddr, Sem.run_bind, Sem.run_pure, Result.andThen_ok, run_loadVar_row w g t ty cs (0, 0) d hg hu hd hi]
  exact ⟨rfl, h⟩
end
end Go.Proofs.Ytlhdildnekllhaa.H
/- A region that draws its order: reads ahead, then a tail whose order is not forced throughout. After the library's proof of 'wp_region_still_tail' (its tail is in one order). -/
namespace Go.Proofs.Ytlhdildnekllhaa.H
open Go.RowKit Go.Proofs.YtlhdildnekllhaaW.PrintWords Go.Proofs.YtlhdildnekllhaaW.PrintLast Go.Proofs.Ytlhdildnekllhaa.PAl
set_option linter.unusedVariables false
set_option linter.unusedSimpArgs false
section
variable {P : Program} {ops : Array Oper} {md : Region.Mode} {w : World}
/-- Each operation of the tail behind its first waits for one of the tail. -/
def chainR (md : Region.Mode) (ops : Array Oper) (n : Nat) : Bool :=
  (List.range ops.size).all fun t => decide (t ≤ n) || (List.range t).any fun s => decide (n ≤ s) && Region.waitsFor md ops t s
theorem tail_waitsR {n : Nat} {listed : Array Bool} (hs : Region.sinkB md ops n = true) (hc : chainR md ops n = true) (hn : n < ops.size) (inv : HeadInv md ops n listed) :
    ∀ (d i : Nat), n - i = d → i < n → listed.getD i true = false → ∀ t, n ≤ t → t ∉ Region.ready md ops listed := by
  intro d
  induction d using Nat.strongRecOn with
  | _ d ih =>
    intro i hd hi hun t ht hr
    obtain ⟨_, ot, hot, hall⟩ := mem_ready.1 hr
    have htlt : t < ops.size := (Array.getElem?_eq_some_iff.1 hot).1
    by_cases htn : t = n
    · subst htn
      have h1 := List.all_eq_true.1 hs i (List.mem_range.2 hi)
      obtain ⟨j, hj, hj2⟩ := List.any_eq_true.1 h1
      simp only [Bool.and_eq_true, decide_eq_true_eq] at hj2
      obtain ⟨oj, hoj, e, he, hb, hon⟩ := Region.waitsFor_spec hj2.2
      have hjle : j ≤ t := by have := List.mem_range.1 hj; omega
      by_cases hjt : j = t
      · subst hjt
        have : oj = ot := Option.some.inj (hoj.symm.trans hot)
        subst this
        have h2 := hall e he hb
        rw [hon, getD_both hun] at h2
        cases h2
      · cases hl : listed.getD j false with
        | true =>
          have h2 := inv.closed j oj hoj hl e he hb
          rw [hon, getD_both hun] at h2
          cases h2
        | false =>
          have hjs : j < listed.size := by rw [inv.size]; omega
          exact ih (t - j) (by omega) j rfl (by omega) (getD_in hjs hl) t (Nat.le_refl _) hr
    · have h1 := List.all_eq_true.1 hc t (List.mem_range.2 htlt)
      simp only [Bool.or_eq_true, decide_eq_true_eq] at h1
      rcases h1 with h1 | h1
      · omega
      · obtain ⟨s, hs1, hs2⟩ := List.any_eq_true.1 h1
        simp only [Bool.and_eq_true, decide_eq_true_eq] at hs2
        have hst := List.mem_range.1 hs1
        obtain ⟨o', ho', e, he, hb, hon⟩ := Region.waitsFor_spec hs2.2
        have : o' = ot := Option.some.inj (ho'.symm.trans hot)
        subst this
        have h2 := hall e he hb
        rw [hon, getD_both (inv.tail s hs2.1 (by omega))] at h2
        cases h2
theorem wpAnyL_firstR {n i : Nat} {oi : Oper} {v : Value} {L : Array Bool → Act → Prop} (hi : ops[i]? = some oi) (hsel : ∀ (j : Nat) (o : Oper) cs b, ops[j]? = some o → o.op ≠ .select cs b)
    (hs : Region.sinkB md ops n = true) (hc : chainR md ops n = true) (hn : n < ops.size) (hin : i < n)
    (hdone : ∀ listed a, L listed a → ∀ j ∈ Region.ready md ops listed, n ≤ j) :
    ∀ (f : Nat) (listed : Array Bool) (a : Act), HeadInv md ops n listed →
      (∀ j oj, ops[j]? = some oj → j ≠ i → listed.getD j true = false → (∀ e ∈ oj.after, Region.binds md e = true → e.on ≠ i) → oi.apart ops oj = true) →
      i ∈ Region.ready md ops listed → YieldsAt P ops w oi v a →
      wpAnyL P md ops w n L f (listed.setIfInBounds i true) (a.put oi.dst v) → wpAnyL P md ops w n L (f + 1) listed a := by
  intro f
  induction f with
  | zero =>
    intro listed a inv _ hr hy H
    have hun := (mem_ready.1 hr).1
    refine ⟨fun h => (by rw [h] at hr; cases hr), fun j hj => ?_⟩
    have hjn : j < n := by
      rcases Nat.lt_or_ge j n with h | h
      · exact h
      · exact absurd hj (tail_waitsR hs hc hn inv _ i rfl hin hun j h)
    refine ⟨hjn, ?_⟩
    by_cases hji : j = i
    · subst hji; exact hy.stOp hi H
    · have := hdone _ _ H j (ready_mono hj hji)
      omega
  | succ f ih =>
    intro listed a inv hfree hr hy H
    have hun := (mem_ready.1 hr).1
    refine ⟨fun h => (by rw [h] at hr; cases hr), fun j hj => ?_⟩
    have hjn : j < n := by
      rcases Nat.lt_or_ge j n with h | h
      · exact h
      · exact absurd hj (tail_waitsR hs hc hn inv _ i rfl hin hun j h)
    refine ⟨hjn, ?_⟩
    by_cases hji : j = i
    · subst hji; exact hy.stOp hi H
    · have h1 := (H.2 j (ready_mono hj hji)).2
      obtain ⟨hjun, oj, hoj, hall⟩ := mem_ready.1 hj
      have hnot : ∀ e ∈ oj.after, Region.binds md e = true → e.on ≠ i := fun e he hb heq => by
        have h1 := hall e he hb
        rw [heq, getD_both hun] at h1
        cases h1
      have h2 := stOp_put hoj (hfree j oj hoj hji hjun hnot) (fun cs b => hsel i oi cs b hi) (fun cs b => hsel j oj cs b hoj) hy h1
      have hfree' : ∀ k ok, ops[k]? = some ok → k ≠ i → (listed.setIfInBounds j true).getD k true = false →
          (∀ e ∈ ok.after, Region.binds md e = true → e.on ≠ i) → oi.apart ops ok = true := fun k ok hk hki hun hno => by
        refine hfree k ok hk hki ?_ hno
        by_cases hjk : j = k
        · subst hjk; exact hjun
        · rw [getD_set_ne true hjk] at hun; exact hun
      refine stOp_mono (fun a' h3 => ih (listed.setIfInBounds j true) a' (inv.set hj hjn) hfree' (ready_mono hr (Ne.symm hji)) h3.1 ?_) h2
      rw [Array.setIfInBounds_comm _ _ hji]
      exact h3.2
/-- The head in its own order, then the tail's. -/
def headR (md : Region.Mode) (ops : Array Oper) (n : Nat) (L0 : Array Bool) : Nat → Nat → Array Bool → Bool
  | 0, _, listed => (listed == L0) && (Region.ready md ops listed).all fun j => decide (n ≤ j)
  | f + 1, k, listed => (Region.ready md ops listed).contains k && Region.free md ops listed k && headR md ops n L0 f (k + 1) (listed.setIfInBounds k true)
def openR (md : Region.Mode) (ops : Array Oper) (n : Nat) (L0 : Array Bool) : Bool :=
  Region.noSelect ops && decide (n < ops.size) && Region.sinkB md ops n && chainR md ops n && headR md ops n L0 n 0 (Array.replicate ops.size false)
theorem wpAnyL_lexR {n : Nat} {L0 : Array Bool} {Lq : Act → Prop} (hsel : Region.noSelect ops = true) (hs : Region.sinkB md ops n = true) (hc : chainR md ops n = true) (hn : n < ops.size) :
    ∀ (l : List Oper) (k : Nat) (listed : Array Bool) (a : Act), (∀ j, j < l.length → l[j]? = ops[k + j]?) → k + l.length = n → HeadInv md ops n listed →
    headR md ops n L0 l.length k listed = true → wpStill P ops w Lq l a →
    wpAnyL P md ops w n (fun listed' a' => listed' = L0 ∧ ((Region.ready md ops listed').all fun j => decide (n ≤ j)) = true ∧ Lq a') l.length listed a
  | [], k, listed, a, _, hk, _, hB, h => by
    have : k = n := by simpa using hk
    subst this
    simp only [List.length_nil, headR, Bool.and_eq_true] at hB
    exact ⟨by simpa using hB.1, hB.2, h⟩
  | o :: l, k, listed, a, hl, hk, inv, hB, h => by
    have h0 : ops[k]? = some o := by simpa using (hl 0 (by simp)).symm
    simp only [List.length_cons, headR, Bool.and_eq_true] at hB
    obtain ⟨⟨hr, hf⟩, hB'⟩ := hB
    have hkn : k < n := by simp only [List.length_cons] at hk; omega
    have hr' : k ∈ Region.ready md ops listed := by simpa using hr
    have hst : stOp P ops w k (wpStill P ops w Lq l) a := by unfold stOp; simp only [h0]; exact h
    obtain ⟨v, hy, hK⟩ := yieldsAt_of_stOp h0 hst
    exact wpAnyL_firstR h0 (Region.noSelect_spec hsel) hs hc hn hkn (fun listed' a' hL j hj => by simpa using List.all_eq_true.1 hL.2.1 j hj) l.length listed a inv (Region.free_spec h0 hf) hr' hy
      (wpAnyL_lexR hsel hs hc hn l (k + 1) _ _ (fun j hj => by have := hl (j + 1) (by simp; omega); simpa [Nat.add_assoc, Nat.add_comm 1 j] using this) (by simp only [List.length_cons] at hk; omega) (inv.set hr' hkn) hB' hK)
theorem wp_region_still_open {id : Nat} {Q : Exit → Act → World → Prop} {a : Act} {w : World} {l : List Oper} (n g : Nat) (L0 : Array Bool) (hm : P.follows .mixedOrders = true) (hB : openR .any l.toArray n L0 = true) (hg : n + g = l.length)
    (h : wpStill P l.toArray w.drew (fun a' => wpAny P .any l.toArray Q g L0 a' w.drew) (l.take n) a) : (Code.region id l.toArray true).wp P Q a w := by
  simp only [openR, Bool.and_eq_true, decide_eq_true_eq] at hB
  obtain ⟨⟨⟨⟨hsel, hn⟩, hs⟩, hc⟩, hlex⟩ := hB
  have htl : (l.take n).length = n := by simp; omega
  have inv0 : HeadInv .any l.toArray n (Array.replicate l.toArray.size false) :=
    ⟨by simp, fun j oj _ hl => (by rw [getD_replicate_false] at hl; cases hl), fun t _ ht => getD_in (by simpa using ht) (getD_replicate_false _ _)⟩
  have H := wpAnyL_lexR (md := .any) (L0 := L0) hsel hs hc hn (l.take n) 0 _ a (fun j hj => by
    have hj' : j < n := by rw [htl] at hj; exact hj
    simp [hj']) (by simpa using htl) inv0 (by rw [htl]; exact hlex) h
  refine wp_region_any hm ?_
  have := wpAny_of_head (Q' := Q) (g := g) (fun listed a' hL => by rw [hL.1]; exact hL.2.2) _ _ _ H
  rw [htl, hg, show l.length = l.toArray.size by simp] at this
  exact this
theorem wp_mv {Q : Exit → Act → World → Prop} {o : Oper} {a : Act} {w : World} {K : Act → World → Prop} {x : Operand} (ho : o.op = .move x) (h : K (a.put o.dst (a.eval x)) w) : o.wp P a w K Q := by
  unfold Oper.wp execOp
  simp only [ho]
  exact h
theorem wp_ex {Q : Exit → Act → World → Prop} {o : Oper} {a : Act} {w : World} {K : Act → World → Prop} {x : Operand} {j : Nat} (ho : o.op = .extract x j) (vs : Array Value) (v : Value) (hx : a.eval x = .tuple vs) (hj : vs[j]? = some v) (h : K (a.put o.dst v) w) : o.wp P a w K Q := by
  unfold Oper.wp execOp
  simp only [ho, hx, Instr.extract, hj, Sem.run_bind, Sem.run_pure, Result.andThen_ok]
  exact h
theorem wp_ca {Q : Exit → Act → World → Prop} {o : Oper} {a : Act} {w : World} {K : Act → World → Prop} {f : FuncId} {fn : Func} {as_ : Array Operand} {ts : Array TypeId} (hop : o.op = .call { callee := .value (.func f), args := as_, argTypes := ts })
    (hf : P.funcs[f]? = some fn) (hname : (fn.name == "runtime.NumGoroutine") = false) (hb : fn.body.isSome = true) (args : Array Value) (hargs : as_.map a.eval = args)
    (h : Calls P f args w fun e w' => ∃ v, e = .returned v ∧ K (a.put o.dst v) w') : o.wp P a w K Q := by
  have he := enters_ hf hname hb args w
  have hrun : (execOp a.eval o).run P w = .ok (.enter f args) w := by
    unfold execOp
    simp [hop, resolve, Deferred.ofValue, invoke, Act.eval, hargs, he]
  unfold Oper.wp
  rw [hrun, Oper.upon_enter]
  refine h.mono fun e w'' hh => ?_
  obtain ⟨v, rfl, hk⟩ := hh
  exact hk
/-- '_, x = f(..)', 'x, _ = f(..)': two are taken out of a tuple, and the first one is stored. -/
theorem wp_two {Q : Exit → Act → World → Prop} {i j k : Nat} {oi oj ok : Oper} {L : Array Bool} {a : Act} {w : World}
    (hi : ops[i]? = some oi) (hj : ops[j]? = some oj) (hk : ops[k]? = some ok) (gi : oi.guard = none) (gj : oj.guard = none) (gk : ok.guard = none)
    (r0 : Region.ready md ops L = [i, j])
    (r1 : Region.ready md ops (L.setIfInBounds i true) = [j, k])
    (r2 : Region.ready md ops (L.setIfInBounds j true) = [i])
    (r3 : Region.ready md ops ((L.setIfInBounds i true).setIfInBounds j true) = [k])
    (r4 : Region.ready md ops ((L.setIfInBounds j true).setIfInBounds i true) = [k])
    (r5 : Region.ready md ops ((L.setIfInBounds i true).setIfInBounds k true) = [j])
    (d1 : Region.ready md ops (((L.setIfInBounds i true).setIfInBounds j true).setIfInBounds k true) = [])
    (d2 : Region.ready md ops (((L.setIfInBounds j true).setIfInBounds i true).setIfInBounds k true) = [])
    (d3 : Region.ready md ops (((L.setIfInBounds i true).setIfInBounds k true).setIfInBounds j true) = [])
    {xi xj xk yk : Operand} {ni nj : Nat} {T : TypeId} (ei : oi.op = .extract xi ni) (ej : oj.op = .extract xj nj) (ek : ok.op = .store T xk yk) (nk : ok.dst = none)
    (vs : Array Value) (cs zs : Array Value) (v : Value) (h0 : vs[ni]? = some (.agg cs)) (h1 : vs[nj]? = some v)
    (g : Nat) (i0 : (P.info? T).map (·.size) = some cs.size) (s0 : zs.size = cs.size) (o0 : cs.all (·.oneCell') = true) (b0 : w.heap[g]? = some (.cells zs T (0, 0)))
    (p0 : a.eval xi = .tuple vs) (p1 : a.eval xj = .tuple vs) (p2 : (a.put oi.dst (.agg cs)).eval xj = .tuple vs) (p3 : (a.put oj.dst v).eval xi = .tuple vs)
    (comm : (a.put oj.dst v).put oi.dst (.agg cs) = (a.put oi.dst (.agg cs)).put oj.dst v)
    (q0 : ((a.put oi.dst (.agg cs)).put oj.dst v).eval xk = .pointer (some ⟨g, 0, none⟩)) (q1 : ((a.put oi.dst (.agg cs)).put oj.dst v).eval yk = .agg cs)
    (q2 : (a.put oi.dst (.agg cs)).eval xk = .pointer (some ⟨g, 0, none⟩)) (q3 : (a.put oi.dst (.agg cs)).eval yk = .agg cs)
    (h : ∀ w1, w1.heap[g]? = some (.cells cs T (0, 0)) → Kp w w1 (fun i => i = g) → Q .normal ((a.put oi.dst (.agg cs)).put oj.dst v) w1) :
    wpAny P md ops Q 3 L a w := by
  have last : ∀ L' : Array Bool, Region.ready md ops L' = [k] → Region.ready md ops (L'.setIfInBounds k true) = [] → wpAny P md ops Q 1 L' ((a.put oi.dst (.agg cs)).put oj.dst v) w := fun L' e1 e2 =>
    any_1 e1 hk gk (wp_st ek nk g cs zs T q0 q1 b0 i0 s0 o0 fun w1 t k1 => wpAny_done e2 (h w1 t k1) _)
  refine any_2 r0 hi gi hj gj ?_ ?_
  · refine wp_ex ei vs (.agg cs) p0 h0 ?_
    refine any_2 r1 hj gj hk gk ?_ ?_
    · exact wp_ex ej vs v p2 h1 (last _ r3 d1)
    · refine wp_st ek nk g cs zs T q2 q3 b0 i0 s0 o0 fun w1 t k1 => ?_
      exact any_1 r5 hj gj (wp_ex ej vs v p2 h1 (wpAny_done d3 (h w1 t k1) _))
  · refine wp_ex ej vs v p1 h1 ?_
    refine any_1 r2 hi gi (wp_ex ei vs (.agg cs) p3 h0 ?_)
    rw [comm]
    exact last _ r4 d2
end
end Go.Proofs.Ytlhdildnekllhaa.H
/- A region that draws its order: a head of operations that read, or lay new blocks, each told by what its value is (a relation that later laying keeps), in whatever order; then the tail. -/
namespace Go.Proofs.Ytlhdildnekllhaa.H
open Go.RowKit Go.Proofs.YtlhdildnekllhaaW.PrintWords Go.Proofs.YtlhdildnekllhaaW.PrintLast Go.Proofs.Ytlhdildnekllhaa.PAl
set_option linter.unusedVariables false
set_option linter.unusedSimpArgs false
section
variable {P : Program} {ops : Array Oper}
structure Ag (n : Nat) (d : Nat → Tmp) (a0 a : Act) : Prop where
  size : a.tmps.size = a0.tmps.size
  defers : a.defers = a0.defers
  old : ∀ s, (∀ i, i < n → d i ≠ s) → a.tmps.getD s undef = a0.tmps.getD s undef
theorem put_size (a : Act) (o : Option Tmp) (v : Value) : (a.put o v).tmps.size = a.tmps.size := by
  cases o <;> simp [Act.put]
theorem put_same (a : Act) (s : Tmp) (v : Value) (h : s < a.tmps.size) : (a.put (some s) v).tmps.getD s undef = v := by
  simp [Act.put, Array.getElem?_setIfInBounds, h]
theorem put_other (a : Act) (s t : Tmp) (v : Value) (h : s ≠ t) : (a.put (some s) v).tmps.getD t undef = a.tmps.getD t undef := by
  simp [Act.put, Array.getElem?_setIfInBounds, h]
theorem Ag.refl (n : Nat) (d : Nat → Tmp) (a : Act) : Ag n d a a := ⟨rfl, rfl, fun _ _ => rfl⟩
theorem Ag.put {n : Nat} {d : Nat → Tmp} {a0 a : Act} (h : Ag n d a0 a) {i : Nat} (hi : i < n) (v : Value) : Ag n d a0 (a.put (some (d i)) v) :=
  ⟨(put_size _ _ _).trans h.size, h.defers, fun s hs => (put_other a (d i) s v (hs i hi)).trans (h.old s hs)⟩
def putN (a0 : Act) (d : Nat → Tmp) (v : Nat → Value) : Nat → Act
  | 0 => a0
  | k + 1 => (putN a0 d v k).put (some (d k)) (v k)
theorem putN_size (a0 : Act) (d : Nat → Tmp) (v : Nat → Value) : ∀ k, (putN a0 d v k).tmps.size = a0.tmps.size
  | 0 => rfl
  | k + 1 => (put_size _ _ _).trans (putN_size a0 d v k)
theorem putN_defers (a0 : Act) (d : Nat → Tmp) (v : Nat → Value) : ∀ k, (putN a0 d v k).defers = a0.defers
  | 0 => rfl
  | k + 1 => putN_defers a0 d v k
theorem putN_at {n : Nat} {d : Nat → Tmp} {a0 a : Act} (h : Ag n d a0 a) (hd : ∀ i, i < n → d i < a0.tmps.size) : ∀ k, k ≤ n → ∀ s,
    ((∃ i, i < k ∧ d i = s) → (putN a0 d (fun i => a.tmps.getD (d i) undef) k).tmps.getD s undef = a.tmps.getD s undef) ∧ ((¬ ∃ i, i < k ∧ d i = s) → (putN a0 d (fun i => a.tmps.getD (d i) undef) k).tmps.getD s undef = a0.tmps.getD s undef)
  | 0, _, s => ⟨fun ⟨i, hi, _⟩ => by omega, fun _ => rfl⟩
  | k + 1, hk, s => by
    have ih := putN_at h hd k (by omega) s
    by_cases e : d k = s
    · refine ⟨fun _ => ?_, fun hn => absurd ⟨k, by omega, e⟩ hn⟩
      subst e
      exact put_same _ _ _ (by rw [putN_size]; exact hd k (by omega))
    · refine ⟨fun ⟨i, hi, hs⟩ => ?_, fun hn => ?_⟩
      · refine (put_other _ _ _ _ e).trans (ih.1 ⟨i, ?_, hs⟩)
        by_cases hik : i = k
        · subst hik; exact absurd hs e
        · omega
      · exact (put_other _ _ _ _ e).trans (ih.2 fun ⟨i, hi, hs⟩ => hn ⟨i, by omega, hs⟩)
theorem act_ext {a b : Act} (hs : a.tmps.size = b.tmps.size) (hd : a.defers = b.defers) (h : ∀ s, a.tmps.getD s undef = b.tmps.getD s undef) : a = b := by
  obtain ⟨ta, da⟩ := a; obtain ⟨tb, db⟩ := b
  have e : ta = tb := Array.ext hs fun i h1 h2 => by
    have := h i
    simp only [Array.getD_eq_getD_getElem?, Array.getElem?_eq_getElem h1, Array.getElem?_eq_getElem h2, Option.getD_some] at this
    exact this
  have hd' : da = db := hd
  rw [e, hd']
theorem putN_eq {n : Nat} {d : Nat → Tmp} {a0 a : Act} (h : Ag n d a0 a) (hd : ∀ i, i < n → d i < a0.tmps.size) : putN a0 d (fun i => a.tmps.getD (d i) undef) n = a :=
  act_ext ((putN_size _ _ _ _).trans h.size.symm) ((putN_defers _ _ _ _).trans h.defers.symm) fun s => by
    have := putN_at h hd n (Nat.le_refl _) s
    by_cases e : ∃ i, i < n ∧ d i = s
    · exact this.1 e
    · exact (this.2 e).trans (h.old s fun i hi hs => e ⟨i, hi, hs⟩).symm
/-- How many of the head aren't done. -/
def unl (L : Array Bool) : Nat → Nat
  | 0 => 0
  | k + 1 => unl L k + (if L.getD k true = false then 1 else 0)
theorem unl_far (L : Array Bool) (i : Nat) : ∀ k, k ≤ i → unl (L.setIfInBounds i true) k = unl L k
  | 0, _ => rfl
  | k + 1, h => by
    unfold unl
    rw [unl_far L i k (by omega), getD_set_ne true (by omega)]
theorem unl_set (L : Array Bool) (i : Nat) (hi : L.getD i true = false) : ∀ k, i < k → unl (L.setIfInBounds i true) k + 1 = unl L k
  | 0, h => by omega
  | k + 1, h => by
    unfold unl
    by_cases e : i = k
    · subst e
      rw [unl_far L i i (Nat.le_refl _), if_pos hi, if_neg (by
        have hlt : i < L.size := by
          rcases Nat.lt_or_ge i L.size with h | h
          · exact h
          · rw [Array.getD_eq_getD_getElem?, Array.getElem?_eq_none h] at hi; cases hi
        simp [hlt])]
    · have := unl_set L i hi k (by omega)
      rw [getD_set_ne true e]; omega
theorem unl_zero (L : Array Bool) : ∀ k, unl L k = 0 → ∀ i, i < k → L.getD i true = true
  | 0, _, i, h => by omega
  | k + 1, h, i, hi => by
    unfold unl at h
    by_cases e : i = k
    · subst e
      cases hb : L.getD i true
      · rw [hb] at h; simp at h
      · rfl
    · exact unl_zero L k (by omega) i (by omega)
theorem unl_pos (L : Array Bool) : ∀ k, unl L k ≠ 0 → ∃ i, i < k ∧ L.getD i true = false ∧ ∀ j, j < i → L.getD j true = true
  | 0, h => absurd rfl h
  | k + 1, h => by
    by_cases e : unl L k = 0
    · have : L.getD k true = false := by
        unfold unl at h
        cases hb : L.getD k true
        · rfl
        · rw [hb, e] at h; simp at h
      exact ⟨k, by omega, this, unl_zero L k e⟩
    · obtain ⟨i, hi, h1, h2⟩ := unl_pos L k e
      exact ⟨i, by omega, h1, h2⟩
/-- A pointer's block. -/
def ptrB : Value → Nat
  | .pointer (some a) => a.block
  | _ => 0
/-- The values of the head's layings lie apart. -/
structure Apt (n : Nat) (d : Nat → Tmp) (Nw : Nat → Bool) (L : Array Bool) (a : Act) (w : World) : Prop where
  lt : ∀ i, i < n → L.getD i true = true → Nw i = true → ptrB (a.tmps.getD (d i) undef) < w.heap.size
  ne : ∀ i j, i < n → j < n → L.getD i true = true → L.getD j true = true → i ≠ j → Nw i = true → Nw j = true → ptrB (a.tmps.getD (d i) undef) ≠ ptrB (a.tmps.getD (d j) undef)
/-- An operation's own step: its value is told by F. -/
def stepS (P : Program) (ops : Array Oper) (Q : Exit → Act → World → Prop) (o : Oper) (F : Value → World → Prop) (a : Act) (w : World) : Prop :=
  if Region.wanted o (yielded ops a.tmps) then o.wp P a w (fun a' w' => ∃ v, a' = a.put o.dst v ∧ F v w') Q else F undef w
/-- Each operation of the head waits for earlier ones alone. -/
def fwdR (ops : Array Oper) (n : Nat) : Bool := (List.range n).all fun i => match ops[i]? with | some o => o.after.all fun e => !(Region.binds .any e) || decide (e.on < i) | none => false
def slotsR (ops : Array Oper) (n : Nat) (L0 : Array Bool) : Bool :=
  decide (n < ops.size) && Region.sinkB .any ops n && chainR .any ops n && fwdR ops n && decide (L0 = (Array.range ops.size).map fun i => decide (i < n))
theorem slots_any {Q : Exit → Act → World → Prop} {n g : Nat} {L0 : Array Bool} {w0 : World} {a0 : Act} {d : Nat → Tmp} {R : Nat → Value → World → Prop} {Nw : Nat → Bool}
    (hs : Region.sinkB .any ops n = true) (hc : chainR .any ops n = true) (hf : fwdR ops n = true) (hn : n < ops.size) (hL0 : L0 = (Array.range ops.size).map fun i => decide (i < n))
    (hdst : ∀ i o, i < n → ops[i]? = some o → o.dst = some (d i)) (hd : ∀ i, i < n → d i < a0.tmps.size) (hinj : ∀ i j, i < n → j < n → d i = d j → i = j)
    (hstab : ∀ i v w w', i < n → R i v w → KpN w w' → R i v w')
    (hstep : ∀ i o, i < n → ops[i]? = some o → ∀ a w, KpN w0 w → Ag n d a0 a → (∀ j, j < n → Region.waitsFor .any ops i j = true → R j (a.tmps.getD (d j) undef) w) → stepS P ops Q o (fun v w' => KpN w w' ∧ R i v w' ∧ (Nw i = true → w.heap.size ≤ ptrB v ∧ ptrB v < w'.heap.size)) a w)
    (hend : ∀ (v : Nat → Value) w, KpN w0 w → (∀ i, i < n → R i (v i) w) → (∀ i j, i < n → j < n → i ≠ j → Nw i = true → Nw j = true → ptrB (v i) ≠ ptrB (v j)) → wpAny P .any ops Q g L0 (putN a0 d v n) w) :
    ∀ (m : Nat) (L : Array Bool) (a : Act) (w : World), unl L n = m → HeadInv .any ops n L → KpN w0 w → Ag n d a0 a → (∀ i, i < n → L.getD i true = true → R i (a.tmps.getD (d i) undef) w) → Apt n d Nw L a w → wpAny P .any ops Q (m + g) L a w
  | 0, L, a, w, hm, inv, hK, hA, hR, hN => by
    have hall := unl_zero L n hm
    have e : L = L0 := by
      rw [hL0]
      refine Array.ext (by rw [inv.size]; simp) fun i h1 h2 => ?_
      rw [Array.getElem_map, Array.getElem_range]
      by_cases hi : i < n
      · have := hall i hi
        rw [Array.getD_eq_getD_getElem?, Array.getElem?_eq_getElem h1, Option.getD_some] at this
        rw [this, decide_eq_true hi]
      · have := inv.tail i (by omega) (by rw [← inv.size]; exact h1)
        rw [Array.getD_eq_getD_getElem?, Array.getElem?_eq_getElem h1, Option.getD_some] at this
        rw [this, decide_eq_false hi]
    rw [e, Nat.zero_add]
    have h := hend (fun i => a.tmps.getD (d i) undef) w hK (fun i hi => hR i hi (hall i hi)) (fun i j hi hj => hN.ne i j hi hj (hall i hi) (hall j hj))
    rw [putN_eq hA hd] at h
    exact h
  | m + 1, L, a, w, hm, inv, hK, hA, hR, hN => by
    obtain ⟨i0, hi0, hu0, hmin⟩ := unl_pos L n (by omega)
    have hready : i0 ∈ Region.ready .any ops L := by
      rw [mem_ready]
      have hf0 := List.all_eq_true.1 hf i0 (List.mem_range.2 hi0)
      cases ho : ops[i0]? with
      | none => rw [ho] at hf0; cases hf0
      | some o =>
        rw [ho] at hf0
        refine ⟨hu0, o, rfl, fun e he hb => ?_⟩
        have := Array.all_eq_true'.1 hf0 e he
        rw [hb] at this
        have hlt : e.on < i0 := by simpa using this
        have h2 := hmin e.on hlt
        have hsz : e.on < L.size := by rw [inv.size]; omega
        rw [Array.getD_eq_getD_getElem?, Array.getElem?_eq_getElem hsz, Option.getD_some] at h2 ⊢
        exact h2
    rw [show m + 1 + g = (m + g) + 1 by omega]
    refine ⟨fun h0 => (by rw [h0] at hready; cases hready), fun i hi => ?_⟩
    have hin : i < n := by
      rcases Nat.lt_or_ge i n with h | h
      · exact h
      · exact absurd hi (tail_waitsR hs hc hn inv _ i0 rfl hi0 hu0 i h)
    obtain ⟨hu, o, ho, hall⟩ := mem_ready.1 hi
    have hst := hstep i o hin ho a w hK hA fun j hj hw => by
      obtain ⟨o', ho', e, he, hb, hon⟩ := Region.waitsFor_spec hw
      obtain rfl : o' = o := Option.some.inj (ho'.symm.trans ho)
      have := hall e he hb
      rw [hon] at this
      have hsz : j < L.size := by rw [inv.size]; omega
      rw [Array.getD_eq_getD_getElem?, Array.getElem?_eq_getElem hsz, Option.getD_some] at this
      exact hR j hj (by rw [Array.getD_eq_getD_getElem?, Array.getElem?_eq_getElem hsz, Option.getD_some]; exact this)
    have hed : o.dst = some (d i) := hdst i o hin ho
    have next : ∀ v w', KpN w w' → R i v w' → (Nw i = true → w.heap.size ≤ ptrB v ∧ ptrB v < w'.heap.size) → wpAny P .any ops Q (m + g) (L.setIfInBounds i true) (a.put (some (d i)) v) w' := fun v w' hk hr hnw =>
      have same : (a.put (some (d i)) v).tmps.getD (d i) undef = v := put_same _ _ _ (by rw [hA.size]; exact hd i hin)
      have other : ∀ j, j < n → j ≠ i → (a.put (some (d i)) v).tmps.getD (d j) undef = a.tmps.getD (d j) undef := fun j hj e => put_other _ _ _ _ fun q => e (hinj i j hin hj q).symm
      have lst : ∀ j, j ≠ i → (L.setIfInBounds i true).getD j true = L.getD j true := fun j e => getD_set_ne true (Ne.symm e)
      slots_any hs hc hf hn hL0 hdst hd hinj hstab hstep hend m _ _ w' (by have := unl_set L i hu n hin; omega) (inv.set hi hin) (hK.trans hk) (hA.put hin v) (fun j hj hl => by
        by_cases e : j = i
        · subst e; rw [same]; exact hr
        · rw [other j hj e]; rw [lst j e] at hl
          exact hstab j _ _ _ hj (hR j hj hl) hk)
        ⟨fun j hj hl hn => by
          by_cases e : j = i
          · subst e; rw [same]; exact (hnw hn).2
          · rw [other j hj e]; rw [lst j e] at hl
            exact Nat.lt_of_lt_of_le (hN.lt j hj hl hn) hk.size, fun j k hj hk' hl hl' hne hn hn' => by
          by_cases e : j = i
          · subst e
            rw [same, other k hk' (Ne.symm hne)]; rw [lst k (Ne.symm hne)] at hl'
            have := hN.lt k hk' hl' hn'; have := (hnw hn).1; omega
          · by_cases e2 : k = i
            · subst e2
              rw [same, other j hj e]; rw [lst j e] at hl
              have := hN.lt j hj hl hn; have := (hnw hn').1; omega
            · rw [other j hj e, other k hk' e2]; rw [lst j e] at hl; rw [lst k e2] at hl'
              exact hN.ne j k hj hk' hl hl' hne hn hn'⟩
    unfold wpOp
    rw [ho]
    dsimp only
    unfold stepS at hst
    split
    · next hw =>
      rw [if_pos hw] at hst
      refine .inl (Oper.wp_mono (fun a' w' h => ?_) hst)
      obtain ⟨v, rfl, hk, hr, hn'⟩ := h
      rw [hed]
      exact next v w' hk hr hn'
    · next hw =>
      rw [if_neg hw] at hst
      rw [hed]
      exact next undef w hst.1 hst.2.1 hst.2.2
theorem wp_region_slots {id : Nat} {Q : Exit → Act → World → Prop} {a0 : Act} {w : World} (n g : Nat) (L0 : Array Bool) (d : Nat → Tmp) (R : Nat → Value → World → Prop) (Nw : Nat → Bool) (hm : P.follows .mixedOrders = true) (hB : slotsR ops n L0 = true) (hg : n + g = ops.size)
    (hdst : ∀ i o, i < n → ops[i]? = some o → o.dst = some (d i)) (hd : ∀ i, i < n → d i < a0.tmps.size) (hinj : ∀ i j, i < n → j < n → d i = d j → i = j)
    (hstab : ∀ i v w w', i < n → R i v w → KpN w w' → R i v w')
    (hstep : ∀ i o, i < n → ops[i]? = some o → ∀ a w', KpN w w' → Ag n d a0 a → (∀ j, j < n → Region.waitsFor .any ops i j = true → R j (a.tmps.getD (d j) undef) w') → stepS P ops Q o (fun v w'' => KpN w' w'' ∧ R i v w'' ∧ (Nw i = true → w'.heap.size ≤ ptrB v ∧ ptrB v < w''.heap.size)) a w')
    (hend : ∀ (v : Nat → Value) w', KpN w w' → (∀ i, i < n → R i (v i) w') → (∀ i j, i < n → j < n → i ≠ j → Nw i = true → Nw j = true → ptrB (v i) ≠ ptrB (v j)) → wpAny P .any ops Q g L0 (putN a0 d v n) w') : (Code.region id ops true).wp P Q a0 w := by
  simp only [slotsR, Bool.and_eq_true, decide_eq_true_eq] at hB
  obtain ⟨⟨⟨⟨hn, hs⟩, hc⟩, hf⟩, hL0⟩ := hB
  refine wp_region_any hm ?_
  have inv0 : HeadInv .any ops n (Array.replicate ops.size false) :=
    ⟨by simp, fun j oj _ hl => (by rw [getD_replicate_false] at hl; cases hl), fun t _ ht => getD_in (by simpa using ht) (getD_replicate_false _ _)⟩
  have hu : ∀ k, k ≤ ops.size → unl (Array.replicate ops.size false) k = k := by
    intro k
    induction k with
    | zero => intro _; rfl
    | succ k ih =>
      intro hk
      unfold unl
      rw [ih (by omega), if_pos (by rw [Array.getD_eq_getD_getElem?, Array.getElem?_replicate, if_pos (by omega)]; rfl)]
  have hd0 : KpN w w.drew := (Kp.refl _ _).drew
  have h := slots_any (P := P) (Q := Q) (g := g) (L0 := L0) (w0 := w) (a0 := a0) (Nw := Nw) hs hc hf hn hL0 hdst hd hinj hstab hstep hend n _ a0 w.drew (hu n (by omega)) inv0 hd0 (Ag.refl _ _ _) (fun i hi hl => by
    rw [Array.getD_eq_getD_getElem?, Array.getElem?_replicate, if_pos (by omega)] at hl; cases hl) ⟨fun i hi hl => (by
    rw [Array.getD_eq_getD_getElem?, Array.getElem?_replicate, if_pos (by omega)] at hl; cases hl), fun i j hi _ hl => (by
    rw [Array.getD_eq_getD_getElem?, Array.getElem?_replicate, if_pos (by omega)] at hl; cases hl)⟩
  rw [hg] at h
  exact h
/-! the steps -/
variable {Q : Exit → Act → World → Prop} {o : Oper} {F : Value → World → Prop} {a : Act} {w : World}
theorem sS_no (h : Region.wanted o (yielded ops a.tmps) = false) (hF : F undef w) : stepS P ops Q o F a w := by
  unfold stepS; rw [if_neg (by rw [h]; decide)]; exact hF
theorem sS_in (h : Region.wanted o (yielded ops a.tmps) = true) (hF : o.wp P a w (fun a' w' => ∃ v, a' = a.put o.dst v ∧ F v w') Q) : stepS P ops Q o F a w := by
  unfold stepS; rw [if_pos h]; exact hF
theorem sS_ld (hg : o.guard = none) {ty : TypeId} {x : Operand} (ho : o.op = .load ty x) (g : Nat) (hx : a.eval x = .pointer (some ⟨g, 0, none⟩)) (t : TypeId) (cs : Array Value) (d : TypeDesc)
    (hb : w.heap[g]? = some (.cells cs t (0, 0))) (hu : P.underlying ty = some d) (hd : (match d with | .struct _ | .array _ _ => true | _ => false) = true) (hi : (P.info? ty).map (·.size) = some cs.size)
    (hF : F (.agg cs) w) : stepS P ops Q o F a w := sS_in (wanted_none hg _) (wp_ld ho g hx t cs d hb hu hd hi ⟨_, rfl, hF⟩)
theorem sS_mv (hg : o.guard = none) {x : Operand} (ho : o.op = .move x) (hF : F (a.eval x) w) : stepS P ops Q o F a w := sS_in (wanted_none hg _) (wp_mv ho ⟨_, rfl, hF⟩)
theorem sS_ca (hg : o.guard = none) {f : FuncId} {fn : Func} {as_ : Array Operand} {ts : Array TypeId} (hop : o.op = .call { callee := .value (.func f), args := as_, argTypes := ts })
    (hf : P.funcs[f]? = some fn) (hname : (fn.name == "runtime.NumGoroutine") = false) (hb : fn.body.isSome = true) (args : Array Value) (hargs : as_.map a.eval = args)
    (h : Calls P f args w fun e w' => ∃ v, e = .returned v ∧ F v w') : stepS P ops Q o F a w :=
  sS_in (wanted_none hg _) (wp_ca hop hf hname hb args hargs (h.mono fun e w' h => by obtain ⟨v, he, hF⟩ := h; exact ⟨v, he, v, rfl, hF⟩))
theorem sS_al (hg : o.guard = none) {t : TypeId} (ho : o.op = .alloc t) (cs : Array Value) (hz : (zeroValue t).run P w = .ok (.agg cs) w)
    (h : ∀ g, g = w.heap.size → ∀ w1, w1.heap[g]? = some (.cells cs t (0, 0)) → KpN w w1 → F (.pointer (some ⟨g, 0, none⟩)) w1) : stepS P ops Q o F a w := by
  refine sS_in (wanted_none hg _) ?_
  have hrun : (execOp a.eval o).run P w = .ok (.value (.pointer (some ⟨w.heap.size, 0, none⟩))) (w.alloc (.cells cs t (0, 0))) := by
    unfold execOp
    simp only [ho, Instr.alloc, Sem.run_bind, hz, Result.andThen_ok]
    rfl
  unfold Oper.wp
  rw [hrun]
  exact ⟨_, rfl, h _ rfl _ (by simpa using heap_alloc_new w _) ((Kp.refl _ _).alloc _)⟩
theorem wp_al {K : Act → World → Prop} {t : TypeId} (ho : o.op = .alloc t) (cs : Array Value) (hz : ∀ W, (zeroValue t).run P W = .ok (.agg cs) W)
    (h : ∀ g, g = w.heap.size → ∀ w1, w1.heap[g]? = some (.cells cs t (0, 0)) → KpN w w1 → K (a.put o.dst (.pointer (some ⟨g, 0, none⟩))) w1) : o.wp P a w K Q := by
  have hrun : (execOp a.eval o).run P w = .ok (.value (.pointer (some ⟨w.heap.size, 0, none⟩))) (w.alloc (.cells cs t (0, 0))) := by
    unfold execOp
    simp only [ho, Instr.alloc, Sem.run_bind, hz, Result.andThen_ok]
    rfl
  unfold Oper.wp
  rw [hrun]
  exact h _ rfl _ (by simpa using heap_alloc_new w _) ((Kp.refl _ _).alloc _)
theorem yf_ld {S : World → Prop} (hg : o.guard = none) {ty : TypeId} {x : Operand} (ho : o.op = .load ty x) (g : Nat) (hx : a.eval x = .pointer (some ⟨g, 0, none⟩)) (t : TypeId) (cs : Array Value) (d : TypeDesc)
    (hb : ∀ w, S w → w.heap[g]? = some (.cells cs t (0, 0))) (hu : P.underlying ty = some d) (hd : (match d with | .struct _ | .array _ _ => true | _ => false) = true) (hi : (P.info? ty).map (·.size) = some cs.size) :
    YieldsIf P ops S o (.agg cs) a := by
  refine .inl ⟨wanted_none hg _, fun w hw => ?_⟩
  unfold execOp
  simp only [ho, hx, Instr.loadAt, Instr.sureAddr, Sem.run_bind, Sem.run_pure, Result.andThen_ok, run_loadVar_row w g t ty cs (0, 0) d (hb w hw) hu hd hi]
theorem anyH_1 {md : Region.Mode} {S : World → Prop} {i fuel : Nat} {listed : Array Bool} (hr : Region.ready md ops listed = [i]) (ho : ops[i]? = some o) (hg : o.guard = none)
    (h : o.wp P a w (fun a' w' => S w' ∧ wpAnyH P md ops Q S fuel (listed.setIfInBounds i true) a' w') Q) : wpAnyH P md ops Q S (fuel + 1) listed a w :=
  wpAnyH_all hr (by simp) fun k hk => by
    have : k = i := by simpa using hk
    subst this; exact op_in ho hg h
theorem anyH_2 {md : Region.Mode} {S : World → Prop} {i j fuel : Nat} {o' : Oper} {listed : Array Bool} (hr : Region.ready md ops listed = [i, j]) (ho : ops[i]? = some o) (hg : o.guard = none) (ho' : ops[j]? = some o') (hg' : o'.guard = none)
    (h : o.wp P a w (fun a' w' => S w' ∧ wpAnyH P md ops Q S fuel (listed.setIfInBounds i true) a' w') Q) (h' : o'.wp P a w (fun a' w' => S w' ∧ wpAnyH P md ops Q S fuel (listed.setIfInBounds j true) a' w') Q) : wpAnyH P md ops Q S (fuel + 1) listed a w :=
  wpAnyH_all hr (by simp) fun k hk => by
    have : k = i ∨ k = j := by simpa using hk
    rcases this with rfl | rfl
    · exact op_in ho hg h
    · exact op_in ho' hg' h'
end
/-- 'x, y := v, v' of a whole row. -/
theorem pair_out {P : Program} {id : Nat} {Q : Exit → Act → World → Prop} {a : Act} {w : World} {o0 o1 o2 o3 o4 o5 : Oper} (hm : P.follows .mixedOrders = true)
    (n0 : o0.guard = none) (n1 : o1.guard = none) (n2 : o2.guard = none) (n3 : o3.guard = none) (n4 : o4.guard = none) (n5 : o5.guard = none)
    (hsel : Region.noSelect #[o0, o1, o2, o3, o4, o5] = true)
    (f0 : Region.free .any #[o0, o1, o2, o3, o4, o5] #[false, false, false, false, false, false] 0 = true) (f1 : Region.free .any #[o0, o1, o2, o3, o4, o5] #[true, false, false, false, false, false] 1 = true)
    (c0 : (Region.ready .any #[o0, o1, o2, o3, o4, o5] #[false, false, false, false, false, false]).contains 0 = true) (c1 : (Region.ready .any #[o0, o1, o2, o3, o4, o5] #[true, false, false, false, false, false]).contains 1 = true)
    (r0 : Region.ready .any #[o0, o1, o2, o3, o4, o5] #[true, true, false, false, false, false] = [2, 3])
    (r1 : Region.ready .any #[o0, o1, o2, o3, o4, o5] #[true, true, true, false, false, false] = [3])
    (r2 : Region.ready .any #[o0, o1, o2, o3, o4, o5] #[true, true, false, true, false, false] = [2])
    (r3 : Region.ready .any #[o0, o1, o2, o3, o4, o5] #[true, true, true, true, false, false] = [4])
    (r4 : Region.ready .any #[o0, o1, o2, o3, o4, o5] #[true, true, true, true, true, false] = [5])
    (r5 : Region.ready .any #[o0, o1, o2, o3, o4, o5] #[true, true, true, true, true, true] = [])
    {T : TypeId} {x0 x1 x4 y4 x5 y5 : Operand} {D : TypeDesc} (e0 : o0.op = .load T x0) (e1 : o1.op = .load T x1) (e2 : o2.op = .alloc T) (e3 : o3.op = .alloc T) (e4 : o4.op = .store T x4 y4) (e5 : o5.op = .store T x5 y5) (d4 : o4.dst = none) (d5 : o5.dst = none)
    (u0 : P.underlying T = some D) (q0 : (match D with | .struct _ | .array _ _ => true | _ => false) = true)
    (g : Nat) (cs zs : Array Value) (hz : ∀ W, (zeroValue T).run P W = .ok (.agg zs) W) (i0 : (P.info? T).map (·.size) = some cs.size) (s0 : zs.size = cs.size) (v0 : cs.all (·.oneCell') = true)
    (b0 : w.heap[g]? = some (.cells cs T (0, 0))) (hQ : (∀ c a w, Q (.panic c) (a.put o0.dst (.agg cs)) w → Q (.panic c) a w) ∧ (∀ c a w, Q (.panic c) (a.put o1.dst (.agg cs)) w → Q (.panic c) a w))
    (p0 : a.eval x0 = .pointer (some ⟨g, 0, none⟩)) (p1 : (a.put o0.dst (.agg cs)).eval x1 = .pointer (some ⟨g, 0, none⟩))
    (comm : ∀ u v, (((a.put o0.dst (.agg cs)).put o1.dst (.agg cs)).put o3.dst v).put o2.dst u = (((a.put o0.dst (.agg cs)).put o1.dst (.agg cs)).put o2.dst u).put o3.dst v)
    (p4 : ∀ u v, ((((a.put o0.dst (.agg cs)).put o1.dst (.agg cs)).put o2.dst u).put o3.dst v).eval x4 = u) (p5 : ∀ u v, ((((a.put o0.dst (.agg cs)).put o1.dst (.agg cs)).put o2.dst u).put o3.dst v).eval y4 = .agg cs)
    (p6 : ∀ u v, ((((a.put o0.dst (.agg cs)).put o1.dst (.agg cs)).put o2.dst u).put o3.dst v).eval x5 = v) (p7 : ∀ u v, ((((a.put o0.dst (.agg cs)).put o1.dst (.agg cs)).put o2.dst u).put o3.dst v).eval y5 = .agg cs)
    (k : ∀ ga gb w2, ga ≠ gb → w.heap.size ≤ ga → w.heap.size ≤ gb → w2.heap[ga]? = some (.cells cs T (0, 0)) → w2.heap[gb]? = some (.cells cs T (0, 0)) → KpN w w2 →
      Q .normal ((((a.put o0.dst (.agg cs)).put o1.dst (.agg cs)).put o2.dst (.pointer (some ⟨ga, 0, none⟩))).put o3.dst (.pointer (some ⟨gb, 0, none⟩))) w2) :
    (Code.region id #[o0, o1, o2, o3, o4, o5] true).wp P Q a w := by
  refine wp_region_held (S := fun W => W.heap[g]? = some (.cells cs T (0, 0))) hm ?_
  show wpAnyH P .any #[o0, o1, o2, o3, o4, o5] Q _ 6 #[false, false, false, false, false, false] a w.drew
  have kd : KpN w w.drew := (Kp.refl _ _).drew
  · have fin : ∀ ga gb W, ga ≠ gb → w.heap.size ≤ ga → w.heap.size ≤ gb → W.heap[ga]? = some (.cells zs T (0, 0)) → W.heap[gb]? = some (.cells zs T (0, 0)) → KpN w W →
        wpAnyH P .any #[o0, o1, o2, o3, o4, o5] Q (fun W => W.heap[g]? = some (.cells cs T (0, 0))) 2 #[true, true, true, true, false, false] ((((a.put o0.dst (.agg cs)).put o1.dst (.agg cs)).put o2.dst (.pointer (some ⟨ga, 0, none⟩))).put o3.dst (.pointer (some ⟨gb, 0, none⟩))) W := by
      intro ga gb W hne hga hgb ha hb hK
      have hg := blk_lt b0
      have bW := (hK.block g hg (fun h => h)).trans b0
      refine anyH_1 r3 rfl n4 (wp_st e4 d4 ga cs zs T (p4 _ _) (p5 _ _) ha i0 s0 v0 fun w1 t1 k1 => ⟨(k1.block g (blk_lt bW) (by omega)).trans bW, ?_⟩)
      have b1 := (k1.block g (blk_lt bW) (by omega)).trans bW
      refine anyH_1 r4 rfl n5 (wp_st e5 d5 gb cs zs T (p6 _ _) (p7 _ _) ((k1.block gb (blk_lt hb) (Ne.symm hne)).trans hb) i0 s0 v0 fun w2 t2 k2 => ⟨(k2.block g (blk_lt b1) (by omega)).trans b1, ?_⟩)
      refine wpAnyH_done r5 ?_ _
      exact k ga gb w2 hne hga hgb ((k2.block ga (blk_lt t1) hne).trans t1) t2 ((hK.then k1 fun i hi (e : i = ga) => by omega).then k2 fun i hi (e : i = gb) => by omega)
    refine wpAnyH_take (i := 0) (v := .agg cs) rfl hsel f0 c0 hQ.1 (yf_ld n0 e0 g p0 T cs D (fun w h => h) u0 q0 i0) b0 ?_
    refine wpAnyH_take (i := 1) (v := .agg cs) rfl hsel f1 c1 hQ.2 (yf_ld n1 e1 g p1 T cs D (fun w h => h) u0 q0 i0) b0 ?_
    have hg := blk_lt b0
    refine anyH_2 r0 rfl n2 rfl n3 (wp_al e2 zs hz fun g2 hg2 w1 h1 k1 => ⟨(k1.block g hg (fun h => h)).trans b0, ?_⟩) (wp_al e3 zs hz fun g3 hg3 w1 h1 k1 => ⟨(k1.block g hg (fun h => h)).trans b0, ?_⟩)
    · have b1 := (k1.block g hg (fun h => h)).trans b0
      refine anyH_1 r1 rfl n3 (wp_al e3 zs hz fun g3 hg3 w2 h2 k2 => ⟨(k2.block g (blk_lt b1) (fun h => h)).trans b1, ?_⟩)
      have l1 := blk_lt h1
      have s1 := k1.size
      have s2 : w.drew.heap.size = w.heap.size := rfl
      exact fin g2 g3 w2 (by omega) (by omega) (by omega) ((k2.block g2 l1 (fun h => h)).trans h1) h2 ((kd.trans k1).trans k2)
    · have b1 := (k1.block g hg (fun h => h)).trans b0
      refine anyH_1 r2 rfl n2 (wp_al e2 zs hz fun g2 hg2 w2 h2 k2 => ⟨(k2.block g (blk_lt b1) (fun h => h)).trans b1, ?_⟩)
      have l1 := blk_lt h1
      have s1 := k1.size
      have s2 : w.drew.heap.size = w.heap.size := rfl
      show wpAnyH P .any #[o0, o1, o2, o3, o4, o5] Q (fun W => W.heap[g]? = some (.cells cs T (0, 0))) 2 #[true, true, true, true, false, false] ((((a.put o0.dst (.agg cs)).put o1.dst (.agg cs)).put o3.dst (.pointer (some ⟨g3, 0, none⟩))).put o2.dst (.pointer (some ⟨g2, 0, none⟩))) w2
      rw [comm]
      exact fin g2 g3 w2 (by omega) (by omega) (by omega) h2 ((k2.block g3 l1 (fun h => h)).trans h1) ((kd.trans k1).trans k2)
end Go.Proofs.Ytlhdildnekllhaa.H
/- The statements' memory (vireolaw10.memory), walked by hand: words put into it, and its struct. -/
namespace Go.Proofs.Ytlhdildnekllhaa.PAl
open Go.RowKit Go.Proofs.YtlhdildnekllhaaW.PrintWords Go.Proofs.YtlhdildnekllhaaW.PrintLast
set_option linter.unusedVariables false
structure S72 where
  f0 : Int
  f1 : Int
def z72 : S72 := ⟨(0 : Int), (0 : Int)⟩
def k72 : Kd S72 := Kd.iso (Kd.pair (Kd.int .u64) (Kd.int .u64)) (fun x : S72 => (x.f0, x.f1))
theorem k72_open {w : World} {x : S72} {cs : List Value} (h : k72.K w x cs) : cs = [.int .u64 x.f0, .int .u64 x.f1] := by
  obtain ⟨_, _, rfl, rfl, rfl⟩ := h
  exact rfl
theorem k72_mk (w : World) (x : S72) : k72.K w x [.int .u64 x.f0, .int .u64 x.f1] := ⟨[.int .u64 x.f0], [.int .u64 x.f1], rfl, rfl, rfl⟩
def rd_T72 (xs : List S72) (i : Int) : S72 := xs.getD i.toNat z72
theorem at_T72 {w : World} {A : Option Addr} {n : Nat} {xs : List S72} (h : Kd.C k72 w A n xs) (i : Int) (h0 : 0 ≤ i) (h1 : i < n) : ∃ ad , A = some ad ∧ w.cell? (ad.add (i.toNat * 2)) = some (.int .u64 (rd_T72 xs i).f0) ∧ w.cell? ⟨(ad.add (i.toNat * 2)).block, (ad.add (i.toNat * 2)).off + 1, none⟩ = some (.int .u64 (rd_T72 xs i).f1) := by
  obtain ⟨ad, c, e, _, hK, hc0⟩ := Kd.C_get h z72 i h0 h1
  have hc : ∀ j u, c[j]? = some u → w.cell? (ad.add (i.toNat * 2 + j)) = some u := hc0
  obtain rfl := k72_open hK
  exact ⟨ad, e, hc 0 _ rfl, by rw [← add_field _ _ 1 (by omega)]; exact hc 1 _ rfl⟩
end Go.Proofs.Ytlhdildnekllhaa.PAl
namespace Go.Proofs.Ytlhdildnekllhaa.H
open Go.RowKit Go.Proofs.YtlhdildnekllhaaW.PrintWords Go.Proofs.YtlhdildnekllhaaW.PrintLast Go.Proofs.Ytlhdildnekllhaa.PAl Go.Proofs.Ytlhdildnekllhaa.Pure Go.Proofs.Ytlhdildnekllhaa.Vw
set_option linter.unusedVariables false
set_option linter.unusedSimpArgs false
abbrev PUT : TypeId := 72
/-- 'return nil, w'. -/
theorem nil_out {P : Program} {id : Nat} {Q : Exit → Act → World → Prop} {a : Act} {w : World} {o0 o1 o2 : Oper} (hm : P.follows .mixedOrders = true)
    (n0 : o0.guard = none) (n1 : o1.guard = none) (n2 : o2.guard = none)
    (r0 : Region.ready .any #[o0, o1, o2] #[false, false, false] = [0, 1])
    (r1' : Region.ready .any #[o0, o1, o2] #[false, true, false] = [0])
    (r1 : Region.ready .any #[o0, o1, o2] #[true, false, false] = [1])
    (r2 : Region.ready .any #[o0, o1, o2] #[true, true, false] = [2])
    (r3 : Region.ready .any #[o0, o1, o2] #[true, true, true] = [])
    {T : TypeId} {x0 x1 x2 y2 : Operand} {D : TypeDesc} (e0 : o0.op = .load T x0) (e1 : o1.op = .assign x1) (e2 : o2.op = .store T x2 y2) (d2 : o2.dst = none)
    (u0 : P.underlying T = some D) (q0 : (match D with | .struct _ | .array _ _ => true | _ => false) = true)
    (g h : Nat) (cs zs : Array Value) (i0 : (P.info? T).map (·.size) = some cs.size) (s0 : zs.size = cs.size) (v0 : cs.all (·.oneCell') = true)
    (b0 : w.heap[g]? = some (.cells cs T (0, 0))) (b1 : w.heap[h]? = some (.cells zs T (0, 0)))
    (p0 : a.eval x0 = .pointer (some ⟨g, 0, none⟩))
    (p0' : (a.put o1.dst (a.eval x1)).eval x0 = .pointer (some ⟨g, 0, none⟩))
    (comm : (a.put o1.dst (a.eval x1)).put o0.dst (.agg cs) = (a.put o0.dst (.agg cs)).put o1.dst ((a.put o0.dst (.agg cs)).eval x1))
    (p2 : ((a.put o0.dst (.agg cs)).put o1.dst ((a.put o0.dst (.agg cs)).eval x1)).eval x2 = .pointer (some ⟨h, 0, none⟩))
    (p3 : ((a.put o0.dst (.agg cs)).put o1.dst ((a.put o0.dst (.agg cs)).eval x1)).eval y2 = .agg cs)
    (k : ∀ w2, w2.heap[h]? = some (.cells cs T (0, 0)) → Kp w w2 (fun i => i = h) → Q .normal ((a.put o0.dst (.agg cs)).put o1.dst ((a.put o0.dst (.agg cs)).eval x1)) w2) :
    (Code.region id #[o0, o1, o2] true).wp P Q a w := by
  refine wp_region_any hm ?_
  show wpAny P .any #[o0, o1, o2] Q 3 #[false, false, false] a w.drew
  have kd : Kp w w.drew (fun i => i = h) := (Kp.refl _ _).drew
  have last : wpAny P .any #[o0, o1, o2] Q 1 #[true, true, false] ((a.put o0.dst (.agg cs)).put o1.dst ((a.put o0.dst (.agg cs)).eval x1)) w.drew :=
    any_1 r2 rfl n2 (wp_st e2 d2 h cs zs T p2 p3 b1 i0 s0 v0 fun w2 t k2 => wpAny_done r3 (k w2 t (kd.trans k2)) _)
  refine any_2 r0 rfl n0 rfl n1 ?_ ?_
  · refine wp_ld e0 g p0 T cs D b0 u0 q0 i0 ?_
    exact any_1 r1 rfl n1 (wp_as e1 last)
  · refine wp_as e1 ?_
    refine any_1 r1' rfl n0 (wp_ld e0 g p0' T cs D b0 u0 q0 i0 ?_)
    show wpAny P .any #[o0, o1, o2] Q 1 #[true, true, false] ((a.put o1.dst (a.eval x1)).put o0.dst (.agg cs)) w.drew
    rw [comm]
    exact last
theorem results_tc {P : Program} {fn : Func} {p0 p1 : Tmp} {T1 : TypeId} (h : fn.results = #[.tmp p0, .cell p1 T1]) (tmps : Array Value) (w : World) (g1 : Nat) (c1 : Array Value) (v : Value) (d1 : TypeDesc)
    (h0 : tmps.getD p0 undef = v) (h1 : tmps.getD p1 undef = .pointer (some ⟨g1, 0, none⟩)) (b1 : w.heap[g1]? = some (.cells c1 T1 (0, 0)))
    (u1 : P.underlying T1 = some d1) (q1 : (match d1 with | .struct _ | .array _ _ => true | _ => false) = true) (i1 : (P.info? T1).map (·.size) = some c1.size) :
    (results fn tmps).run P w = .ok (.tuple #[v, .agg c1]) w := by
  have h0' : tmps[p0]?.getD undef = v := by simpa using h0
  have h1' : tmps[p1]?.getD undef = .pointer (some ⟨g1, 0, none⟩) := by simpa using h1
  simp [results, h, h0', h1', asAddr, run_loadVar_row w g1 T1 T1 c1 (0, 0) d1 b1 u1 q1 i1]
abbrev RT2 : TypeId := 30
abbrev ramC (u : Value) : Array Value := #[.int .u64 32768, u]
theorem infoM : (Try.prog.info? RT2).map (·.size) = some 2 := by kernel_rfl
theorem zeroM (w : World) : (zeroValue RT2).run Try.prog w = .ok (.agg #[.int .u64 0, .slice none 0 0]) w := by kernel_rfl
theorem al32 : word_Aligned.f 32768 4096 = some true := by decide +kernel
set_option maxHeartbeats 8000000 in
set_option maxRecDepth 100000 in
theorem memory_no (A : Option Addr) (c : Nat) (xs : List S72) (w : World) (hn : 60 < xs.length) :
    Calls Try.prog 9 #[.slice A xs.length c] w fun e w' => e = .returned (.tuple #[.pointer none, .agg (ramC (.slice none 0 0))]) ∧ KpN w w' := by
  have NW : Aside0 (∀ W, Calls Try.prog 29 #[.int .u64 32768] W fun e w' => ∃ g B, e = .returned (.tuple #[.pointer (some ⟨g, 0, none⟩), .int .i64 0]) ∧ Rm w' g B 0 32768 (fun _ => none) (fun _ => 0) ∧ KpN W w' ∧ W.heap.size ≤ g ∧ W.heap.size ≤ B) := ⟨fun W => new_m 32768 W (by decide) (by decide) al32⟩
  have t4 : decide (60 < xs.length) = true := decide_eq_true hn
  have t5 : decide (60 < (xs.length : Int)) = true := decide_eq_true (by omega)
  clear hn
  go_enter Try.func9, Try.ntmps9
  go_wp2_with (first
    | ((with_reducible refine gate_dst (N := 3) rfl ?_); refine al_ev rfl rfl (N := 3) rfl _ (zeroM _) ?_; intro r hg_r w2 hb_r hk_r; have Hg_r := Aside0.mk hg_r; clear hg_r)
    | ((with_reducible refine gate_dst (N := 4) rfl ?_); refine al_ev rfl rfl (N := 4) rfl _ (zeroM _) ?_; intro q hg_q w3 hb_q hk_q; have Hg_q := Aside0.mk hg_q; clear hg_q)
    | ((with_reducible refine gate_store (t := 30) (p := 4) rfl ?_); refine st_ev rfl rfl rfl q (ramC (.slice none 0 0)) _ _ rfl rfl (hb_q) infoM rfl ((by simp [Value.oneCell'])) ?_; intro w4 hs_w4 ks_w4)
    | (go_at_call 29; refine (NW.out _).mono ?_; rintro e w1 ⟨g, B, rfl, hR1, hk1, hg, hB⟩; have hg' := Aside0.mk hg; have hB' := Aside0.mk hB; clear hg hB))
  have Q3 : Bk w4 q (ramC (.slice none 0 0)) RT2 := ⟨hs_w4⟩
  have R2 : Bk w2 r #[.int .u64 0, .slice none 0 0] RT2 := ⟨hb_r⟩
  have hrq : r ≠ q := by have := Hg_q.out; have := blk_lt hb_r; omega
  have R4 := (R2.kp hk_q (fun h => h)).kp ks_w4 hrq
  have K4 : KpN w w4 := (hk_r.trans hk_q).then ks_w4 fun i hi (e : i = q) => by have := Hg_q.out; have := hk_r.size; omega
  refine nil_out (by kernel_rfl) rfl rfl rfl (by kernel_rfl) (by kernel_rfl) (by kernel_rfl) (by kernel_rfl) (by kernel_rfl) rfl rfl rfl rfl Try.underlying30 rfl q r (ramC (.slice none 0 0)) #[.int .u64 0, .slice none 0 0] infoM rfl (by simp [Value.oneCell']) (Q3.kp hk1 (fun h => h)).blk (R4.kp hk1 (fun h => h)).blk rfl rfl rfl rfl rfl ?_
  intro w5 h5 k5
  go_wp2
  refine bodyPost_ret (results_tc rfl _ _ r (ramC (.slice none 0 0)) (.pointer none) _ rfl rfl h5 Try.underlying30 rfl infoM) rfl ?_
  exact ⟨rfl, (K4.trans hk1).then k5 fun i hi (e : i = r) => by have := Hg_r.out; omega⟩
end Go.Proofs.Ytlhdildnekllhaa.H
/- The reference's memory (package vireoref02): what a word that is written adds to the list of bytes; what is read there. Plain, no walk. -/
namespace Go.Proofs.Ytlhdildnekllhaa.H
open Go.RowKit Go.Proofs.YtlhdildnekllhaaW.PrintWords Go.Proofs.YtlhdildnekllhaaW.PrintLast Go.Proofs.Ytlhdildnekllhaa.PAl Go.Proofs.Ytlhdildnekllhaa.Pure Go.Proofs.Ytlhdildnekllhaa.Vw
set_option linter.unusedVariables false
set_option linter.unusedSimpArgs false
abbrev BY := S131
/-- The k-th byte of a word at an address. -/
def byA (a x k : Nat) : BY := ⟨((a + k : Nat) : Int), ((x / 256 ^ k % 256 : Nat) : Int)⟩
def byL (a x n : Nat) : List BY := (List.range n).map (byA a x)
theorem byL_length (a x n : Nat) : (byL a x n).length = n := by simp [byL]
theorem byL_succ (a x n : Nat) : byL a x (n + 1) = byL a x n ++ [byA a x n] := by simp [byL, List.range_succ]
theorem set_mid {α : Type} (a b : List α) (z v : α) (n : Nat) (h : a.length = n) : (a ++ z :: b).set n v = a ++ v :: b := by
  subst h; simp
theorem repl_succ {α : Type} (n : Nat) (z : α) : List.replicate (n + 1) z = z :: List.replicate n z := rfl
theorem w64i (i : Nat) (h : i < 4000000) : wrap64 ((i : Int) + 1) = ((i + 1 : Nat) : Int) := by rw [w64_id _ (by omega) (by omega)]; omega
theorem rw_l0 (a : Int) (d : List Int) (size : Int) (l : List BY) (hl : l.length ≤ 2000) (n : Nat) : ∀ (m k j : Nat), j + m = l.length →
    vireoref02_Write.l0 (m + k + 1) a d (l.take j ++ List.replicate (m + n) z131) (j : Int) size l = vireoref02_Write.l1 k a d (l ++ List.replicate n z131) 0 size l
  | 0, k, j, h => by
    rw [show 0 + k + 1 = k + 1 by omega, vireoref02_Write.l0, if_neg (by omega), show j = l.length by omega, List.take_length, show 0 + n = n by omega]
  | m + 1, k, j, h => by
    have hj : j < l.length := by omega
    rw [show m + 1 + k + 1 = (m + k + 1) + 1 by omega, vireoref02_Write.l0, if_pos (by omega), if_pos (by omega), if_pos (by simp only [List.length_append, List.length_take, List.length_replicate]; omega)]
    rw [show m + 1 + n = (m + n) + 1 by omega, repl_succ, Int.toNat_natCast, set_mid _ _ _ _ _ (by simp only [List.length_take]; omega), w64i j (by omega)]
    have e : (⟨(rd_T131 l (j : Int)).f0, (rd_T131 l (j : Int)).f1⟩ : BY) = l[j] := by
      unfold rd_T131; rw [Int.toNat_natCast, List.getD_eq_getElem?_getD, List.getElem?_eq_getElem hj]; rfl
    rw [e]
    have e2 : l.take j ++ l[j] :: List.replicate (m + n) z131 = l.take (j + 1) ++ List.replicate (m + n) z131 := by
      rw [List.take_succ_eq_append_getElem hj, List.append_assoc]; rfl
    rw [e2]
    exact rw_l0 a d size l hl n m k (j + 1) (by omega)
theorem rw_l1 (a x n : Nat) (hn : n ≤ 8) (ha : a + 8 < 18446744073709551616) (size : Int) (l : List BY) (hl : l.length ≤ 2000) : ∀ (m k j : Nat), j + m = n →
    vireoref02_Write.l1 (m + k + 1) (a : Int) (bys x n) (l ++ byL a x j ++ List.replicate m z131) (j : Int) size l = some (size, l ++ byL a x n, true)
  | 0, k, j, h => by
    rw [show 0 + k + 1 = k + 1 by omega, vireoref02_Write.l1, if_neg (by rw [bys_length]; omega), show j = n by omega]; simp
  | m + 1, k, j, h => by
    have e0 : wrap64 ((l.length : Int) + (j : Int)) = ((l.length + j : Nat) : Int) := by rw [w64_id _ (by omega) (by omega)]; omega
    have e1 : IntKind.u64.wrap ((a : Int) + IntKind.u64.wrap (j : Int)) = ((a + j : Nat) : Int) := by
      rw [u64_nat j (by omega), show (a : Int) + (j : Int) = ((a + j : Nat) : Int) by omega]
      exact u64_nat _ (by omega)
    rw [show m + 1 + k + 1 = (m + k + 1) + 1 by omega, vireoref02_Write.l1, e0, e1, if_pos (by rw [bys_length]; omega), if_pos (by omega), if_pos (by omega), if_pos (by simp only [List.length_append, byL_length, List.length_replicate]; omega)]
    rw [repl_succ, Int.toNat_natCast, set_mid _ _ _ _ _ (by simp only [List.length_append, byL_length]), bys_rd x n j (by omega), w64i j (by omega)]
    have e2 : l ++ byL a x j ++ (⟨((a + j : Nat) : Int), ((x / 256 ^ j % 256 : Nat) : Int)⟩ : BY) :: List.replicate m z131 = l ++ byL a x (j + 1) ++ List.replicate m z131 := by
      rw [byL_succ]; simp [byA]
    rw [e2]
    exact rw_l1 a x n hn ha size l hl m k (j + 1) (by omega)
/-- The bytes then. -/
def stL (l : List BY) (a x : Nat) : List BY := l ++ byL a x 8
theorem rstore_yes (size : Nat) (l : List BY) (a x : Nat) (ha : U a) (hx : U x) (hs : size ≤ 268435456) (hl : l.length ≤ 1000) (h : hasB size a 8 = true) :
    vireoref02_Store.f 6000 (size : Int) l (a : Int) 8 (x : Int) = some ((size : Int), stL l a x, true) := by
  have hb : 2147483648 ≤ a ∧ a + 8 ≤ 2147483648 + size := of_decide_eq_true h
  have hsz : vireoref02_sized.f 8 = some true := by decide +kernel
  have hw : vireoref02_Has.f (size : Int) l (a : Int) 8 = some true := by
    unfold vireoref02_Has.f
    have := within_ref a 8 2147483648 size ha.lt (by decide) (by decide) (by omega)
    rw [show ((8 : Nat) : Int) = 8 from rfl, show ((2147483648 : Nat) : Int) = 2147483648 from rfl] at this
    rw [this, Option.bind_some, decide_eq_true hb]
  have hn : bcn 8 = 8 := by decide +kernel
  unfold vireoref02_Store.f
  rw [hsz, Option.bind_some, if_pos rfl, vireoref01_Bytes_is 6000 (by decide) x hx.lt 8, Option.bind_some, hn]
  have e0 : wrap64 ((l.length : Int) + (8 : Int)) = ((l.length + 8 : Nat) : Int) := by rw [w64_id _ (by omega) (by omega)]; omega
  have e8 : (((bys x 8).length : Nat) : Int) = 8 := by rw [bys_length]; rfl
  have hW : vireoref02_Write.f 6000 (size : Int) l (a : Int) (bys x 8) = some ((size : Int), stL l a x, true) := by
    unfold vireoref02_Write.f
    rw [e8, show IntKind.u64.wrap (8 : Int) = 8 from rfl, hw, Option.bind_some, if_pos rfl, e0, if_pos (by omega), if_pos (by omega), Int.toNat_natCast]
    obtain ⟨k, hk⟩ : ∃ k, 6000 = l.length + (8 + k + 1) + 1 := ⟨6000 - l.length - 10, by omega⟩
    rw [hk]
    have h0 := rw_l0 (a : Int) (bys x 8) (size : Int) l (by omega) 8 l.length (8 + k + 1) 0 (by omega)
    rw [List.take_zero, List.nil_append] at h0
    refine Eq.trans h0 ?_
    have h1 := rw_l1 a x 8 (by decide) (by omega) (size : Int) l (by omega) 8 k 0 (by omega)
    rw [show byL a x 0 = [] from rfl, List.append_nil] at h1
    exact h1
  rw [hW]; rfl
theorem rstore_no (size : Nat) (l : List BY) (a x : Nat) (ha : U a) (hx : U x) (hs : size ≤ 268435456) (h : hasB size a 8 = false) :
    vireoref02_Store.f 6000 (size : Int) l (a : Int) 8 (x : Int) = some ((size : Int), l, false) := by
  have hb : ¬ (2147483648 ≤ a ∧ a + 8 ≤ 2147483648 + size) := of_decide_eq_false h
  have hsz : vireoref02_sized.f 8 = some true := by decide +kernel
  have hw : vireoref02_Has.f (size : Int) l (a : Int) 8 = some false := by
    unfold vireoref02_Has.f
    have := within_ref a 8 2147483648 size ha.lt (by decide) (by decide) (by omega)
    rw [show ((8 : Nat) : Int) = 8 from rfl, show ((2147483648 : Nat) : Int) = 2147483648 from rfl] at this
    rw [this, Option.bind_some, decide_eq_false hb]
  have hn : bcn 8 = 8 := by decide +kernel
  have e8 : (((bys x 8).length : Nat) : Int) = 8 := by rw [bys_length]; rfl
  unfold vireoref02_Store.f
  rw [hsz, Option.bind_some, if_pos rfl, vireoref01_Bytes_is 6000 (by decide) x hx.lt 8, Option.bind_some, hn]
  have hW : vireoref02_Write.f 6000 (size : Int) l (a : Int) (bys x 8) = some ((size : Int), l, false) := by
    unfold vireoref02_Write.f
    rw [e8, show IntKind.u64.wrap (8 : Int) = 8 from rfl, hw, Option.bind_some, if_neg (by decide)]
  rw [hW]; rfl
/-! what is read: the last byte written there, or 0 -/
/-- The byte at an address, after a list of bytes. -/
def lastB (l : List BY) (a : Nat) : Nat := ((l.reverse.find? fun y => decide (y.f0 = (a : Int))).map fun y => y.f1.toNat).getD 0
end Go.Proofs.Ytlhdildnekllhaa.H
/- The statements' memory (vireolaw10.memory), walked by hand: where it is tried. -/
namespace Go.Proofs.Ytlhdildnekllhaa.H
open Go.RowKit Go.Proofs.YtlhdildnekllhaaW.PrintWords Go.Proofs.YtlhdildnekllhaaW.PrintLast Go.Proofs.Ytlhdildnekllhaa.PAl Go.Proofs.Ytlhdildnekllhaa.Pure Go.Proofs.Ytlhdildnekllhaa.Vw
set_option linter.unusedVariables false
set_option linter.unusedSimpArgs false
abbrev PW := S72
def putOk (xs : List PW) : Prop := ∀ y ∈ xs, (0 ≤ y.f0 ∧ y.f0 < 18446744073709551616) ∧ (0 ≤ y.f1 ∧ y.f1 < 18446744073709551616)
theorem putOk_at {xs : List PW} (h : putOk xs) (k : Nat) : ∃ a x : Nat, xs.getD k z72 = ⟨(a : Int), (x : Int)⟩ ∧ U a ∧ U x := by
  by_cases hk : k < xs.length
  · rw [List.getD_eq_getElem?_getD, List.getElem?_eq_getElem hk]
    obtain ⟨⟨h0, h1⟩, h2, h3⟩ := h xs[k] (List.getElem_mem hk)
    refine ⟨xs[k].f0.toNat, xs[k].f1.toNat, ?_, ⟨by omega⟩, ⟨by omega⟩⟩
    show xs[k] = _
    rw [Int.toNat_of_nonneg h0, Int.toNat_of_nonneg h2]
  · rw [List.getD_eq_getElem?_getD, List.getElem?_eq_none (by omega)]
    exact ⟨0, 0, rfl, U.num, U.num⟩
def stepM (M : Nat → Nat) (a x : Nat) : Nat → Nat := if hasB 32768 a 8 = true then stN M (a - 2147483648) x 8 else M
def stepL (l : List BY) (a x : Nat) : List BY := if hasB 32768 a 8 = true then stL l a x else l
def memM (xs : List PW) : Nat → Nat → Nat
  | 0 => fun _ => 0
  | k + 1 => stepM (memM xs k) (xs.getD k z72).f0.toNat (xs.getD k z72).f1.toNat
def memL (xs : List PW) : Nat → List BY
  | 0 => []
  | k + 1 => stepL (memL xs k) (xs.getD k z72).f0.toNat (xs.getD k z72).f1.toNat
theorem memL_len (xs : List PW) : ∀ k, (memL xs k).length ≤ 8 * k
  | 0 => by simp [memL]
  | k + 1 => by
    have h := memL_len xs k
    unfold memL stepL
    split
    · unfold stL; rw [List.length_append, byL_length]; omega
    · omega
theorem store_any (g B n size : Nat) (pg : Nat → Option Nat) (M : Nat → Nat) (a x : Nat) (w : World) (hI : Rm w g B n size pg M) (ha : U a) (hs : size ≤ 268435456) (hn : n ≤ 4000) (hx : U x) :
    Calls Try.prog 30 #[.pointer (some ⟨g, 0, none⟩), .int .u64 (a : Int), .int .i64 8, .int .u64 (x : Int)] w fun e w' => e = .returned (.bool (hasB size a 8)) ∧ stPost g B (n + 8) size pg (if hasB size a 8 = true then stN M (a - 2147483648) x 8 else M) w w' := by
  by_cases h : hasB size a 8 = true
  · have hb : 2147483648 ≤ a ∧ a + 8 ≤ 2147483648 + size := of_decide_eq_true h
    obtain ⟨off, rfl⟩ : ∃ off, a = 2147483648 + off := ⟨a - 2147483648, by omega⟩
    rw [h, if_pos rfl, show 2147483648 + off - 2147483648 = off by omega]
    exact store_yes g B n size pg M off x w hI (by omega) hs hn hx
  · have h' : hasB size a 8 = false := by simpa using h
    rw [h', if_neg (by decide)]
    exact (store_no g B n size pg M a x w hI ha ⟨by omega⟩ h').mono fun e w' q => ⟨q.1, by
      obtain ⟨m, hm⟩ := q.2
      rw [hm]
      exact ⟨pg, (hI.drewN m).mono (by omega), (Kp.refl _ _).drewN m, memTo.refl _ _ _ _⟩⟩
theorem map_blk {w : World} {B n : Nat} {k : TypeId} {P : Program} {pg : Nat → Option Nat} (h : PMap P k w B n pg) (cells : Array Value) (q : TypeId) (p : Nat × Nat) : w.heap[B]? ≠ some (.cells cells q p) := by
  obtain ⟨D, ⟨es, clock, hb, _⟩, _⟩ := h.ex
  rw [hb]; intro e; cases e
/-- The reference's bytes lie beside the memory, by their type. -/
theorem R_off {W : World} {g B n size base : Nat} {pg : Nat → Option Nat} {M : Nat → Nat} {u : Value} {l : List BY} {ok : Nat → Prop} (h : Kd.R k131 131 W base ok u l) (hR : Rm W g B n size pg M) {q r : Nat} {cq cr : Array Value} (hq : Bk W q cq RT2) (hr : Bk W r cr RT2) :
    Kd.R k131 131 W base (fun k => base ≤ k ∧ k < W.heap.size ∧ ¬ memB g B pg k ∧ k ≠ q ∧ k ≠ r) u l :=
  Kd.R_mono (Kd.R_bound h) fun k hk => by
    obtain ⟨_, h2, h3, t, ht, cells, hc⟩ := hk
    have ht' : t = 131 := by
      rcases List.mem_cons.1 ht with h | h
      · exact h
      · cases h
    subst ht'
    refine ⟨h2, h3, ?_, ?_, ?_⟩
    · rintro (e | e | ⟨j, hj⟩)
      · subst e; have := hR.blk.blk; rw [hc] at this; injection this with this; injection this with _ this; exact absurd this (by decide)
      · subst e; exact map_blk hR.map _ _ _ hc
      · have := hR.pag j k hj; rw [hc] at this; injection this with this; injection this with _ this; exact absurd this (by decide)
    · rintro rfl; have := hq.blk; rw [hc] at this; injection this with this; injection this with _ this; exact absurd this (by decide)
    · rintro rfl; have := hr.blk; rw [hc] at this; injection this with this; injection this with _ this; exact absurd this (by decide)
theorem rstore_c (u : Value) (l : List BY) (a x : Nat) (w0 w : World) (ok : Nat → Prop) (hB : Below w0.heap.size w0 w) (ha : U a) (hx : U x) (hl : l.length ≤ 1000) (h : Kd.R k131 131 w w0.heap.size ok u l) :
    Calls Try.prog 31 #[.agg #[.int .u64 32768, u], .int .u64 (a : Int), .int .i64 8, .int .u64 (x : Int)] w fun e w' => ∃ v1 : Value, e = .returned (.tuple #[.agg #[.int .u64 32768, v1], .bool (hasB 32768 a 8)]) ∧ Kd.R k131 131 w' w0.heap.size (fun _ => True) v1 (stepL l a x) ∧ Kp w w' ok := by
  have hf : vireoref02_Store.f 6000 32768 l (a : Int) 8 (x : Int) = some (32768, stepL l a x, hasB 32768 a 8) := by
    unfold stepL
    by_cases hh : hasB 32768 a 8 = true
    · rw [if_pos hh, hh]; exact rstore_yes 32768 l a x ha hx (by decide) hl hh
    · have hh' : hasB 32768 a 8 = false := by simpa using hh
      rw [if_neg hh, hh']; exact rstore_no 32768 l a x ha hx (by decide) hh'
  refine (vireoref02_Store.calls 6000 32768 ok u l _ _ _ _ _ _ w0 w hB h hf).mono ?_
  rintro e w' ⟨v1, he, hR, hb, hk⟩
  exact ⟨v1, he, Kd.R_mono hR fun _ _ => trivial, ⟨hb.os.trans hB.os.symm, hb.tape.trans hB.tape.symm, hb.output.trans hB.output.symm, hk.1, hk.2⟩⟩
/-- What a round keeps. -/
structure MInv (w W : World) (g B r q : Nat) (pg : Nat → Option Nat) (u : Value) (xs : List PW) (k : Nat) : Prop where
  R : Rm W g B (8 * k) 32768 pg (memM xs k)
  L : Kd.R k131 131 W w.heap.size (fun _ => True) u (memL xs k)
  Q : Bk W q (ramC u) RT2
  Z : Bk W r #[.int .u64 0, .slice none 0 0] RT2
  K : KpN w W
  lo : ∀ i, memB g B pg i → w.heap.size ≤ i
/-- Blocks of other types are none of the memory's. -/
theorem Rm.off {W : World} {g B n size : Nat} {pg : Nat → Option Nat} {M : Nat → Nat} (hR : Rm W g B n size pg M) {k : Nat} {cells : Array Value} {t : TypeId} (hc : W.heap[k]? = some (.cells cells t (0, 0))) (h1 : t ≠ QT) (h2 : t ≠ GT) : ¬ memB g B pg k := by
  rintro (e | e | ⟨j, hj⟩)
  · subst e; have := hR.blk.blk; rw [hc] at this; injection this with this; injection this with _ this; exact h1 this
  · subst e; exact map_blk hR.map _ _ _ hc
  · have := hR.pag j k hj; rw [hc] at this; injection this with this; injection this with _ this; exact h2 this
/-- 'return m, w'. -/
theorem mv_out {P : Program} {id : Nat} {Q : Exit → Act → World → Prop} {a : Act} {w : World} {o0 o1 o2 o3 : Oper} (hm : P.follows .mixedOrders = true)
    (n0 : o0.guard = none) (n1 : o1.guard = none) (n2 : o2.guard = none) (n3 : o3.guard = none)
    (r0 : Region.ready .any #[o0, o1, o2, o3] #[false, false, false, false] = [0, 1])
    (r1 : Region.ready .any #[o0, o1, o2, o3] #[true, false, false, false] = [1, 2])
    (r2 : Region.ready .any #[o0, o1, o2, o3] #[false, true, false, false] = [0])
    (r3 : Region.ready .any #[o0, o1, o2, o3] #[true, true, false, false] = [2])
    (r4 : Region.ready .any #[o0, o1, o2, o3] #[true, false, true, false] = [1])
    (r5 : Region.ready .any #[o0, o1, o2, o3] #[true, true, true, false] = [3])
    (r6 : Region.ready .any #[o0, o1, o2, o3] #[true, true, true, true] = [])
    {T : TypeId} {x0 x1 x2 x3 y3 : Operand} {D : TypeDesc} (e0 : o0.op = .move x0) (e1 : o1.op = .load T x1) (e2 : o2.op = .assign x2) (e3 : o3.op = .store T x3 y3) (d3 : o3.dst = none)
    (u0 : P.underlying T = some D) (q0 : (match D with | .struct _ | .array _ _ => true | _ => false) = true)
    (g h : Nat) (cs zs : Array Value) (v : Value) (i0 : (P.info? T).map (·.size) = some cs.size) (s0 : zs.size = cs.size) (v0 : cs.all (·.oneCell') = true)
    (b0 : w.heap[g]? = some (.cells cs T (0, 0))) (b1 : w.heap[h]? = some (.cells zs T (0, 0)))
    (p0 : a.eval x0 = v) (p0' : (a.put o1.dst (.agg cs)).eval x0 = v)
    (p1 : a.eval x1 = .pointer (some ⟨g, 0, none⟩)) (p1' : (a.put o0.dst v).eval x1 = .pointer (some ⟨g, 0, none⟩)) (p1'' : ((a.put o0.dst v).put o2.dst v).eval x1 = .pointer (some ⟨g, 0, none⟩))
    (p2 : ((a.put o0.dst v).put o1.dst (.agg cs)).eval x2 = v) (p2' : (a.put o0.dst v).eval x2 = v)
    (comm1 : (a.put o1.dst (.agg cs)).put o0.dst v = (a.put o0.dst v).put o1.dst (.agg cs))
    (comm2 : ((a.put o0.dst v).put o2.dst v).put o1.dst (.agg cs) = ((a.put o0.dst v).put o1.dst (.agg cs)).put o2.dst v)
    (p3 : (((a.put o0.dst v).put o1.dst (.agg cs)).put o2.dst v).eval x3 = .pointer (some ⟨h, 0, none⟩))
    (p4 : (((a.put o0.dst v).put o1.dst (.agg cs)).put o2.dst v).eval y3 = .agg cs)
    (k : ∀ w2, w2.heap[h]? = some (.cells cs T (0, 0)) → Kp w w2 (fun i => i = h) → Q .normal (((a.put o0.dst v).put o1.dst (.agg cs)).put o2.dst v) w2) :
    (Code.region id #[o0, o1, o2, o3] true).wp P Q a w := by
  refine wp_region_any hm ?_
  show wpAny P .any #[o0, o1, o2, o3] Q 4 #[false, false, false, false] a w.drew
  have kd : Kp w w.drew (fun i => i = h) := (Kp.refl _ _).drew
  have last : wpAny P .any #[o0, o1, o2, o3] Q 1 #[true, true, true, false] (((a.put o0.dst v).put o1.dst (.agg cs)).put o2.dst v) w.drew :=
    any_1 r5 rfl n3 (wp_st e3 d3 h cs zs T p3 p4 b1 i0 s0 v0 fun w2 t k2 => wpAny_done r6 (k w2 t (kd.trans k2)) _)
  have mid : wpAny P .any #[o0, o1, o2, o3] Q 2 #[true, true, false, false] ((a.put o0.dst v).put o1.dst (.agg cs)) w.drew :=
    any_1 r3 rfl n2 (wp_as e2 (by rw [p2]; exact last))
  refine any_2 r0 rfl n0 rfl n1 ?_ ?_
  · refine wp_mv e0 ?_
    rw [p0]
    refine any_2 r1 rfl n1 rfl n2 ?_ ?_
    · exact wp_ld e1 g p1' T cs D b0 u0 q0 i0 mid
    · refine wp_as e2 ?_
      show wpAny P .any #[o0, o1, o2, o3] Q 2 #[true, false, true, false] ((a.put o0.dst v).put o2.dst ((a.put o0.dst v).eval x2)) w.drew
      rw [p2']
      refine any_1 r4 rfl n1 (wp_ld e1 g p1'' T cs D b0 u0 q0 i0 ?_)
      show wpAny P .any #[o0, o1, o2, o3] Q 1 #[true, true, true, false] (((a.put o0.dst v).put o2.dst v).put o1.dst (.agg cs)) w.drew
      rw [comm2]
      exact last
  · refine wp_ld e1 g p1 T cs D b0 u0 q0 i0 ?_
    refine any_1 r2 rfl n0 (wp_mv e0 ?_)
    show wpAny P .any #[o0, o1, o2, o3] Q 2 #[true, true, false, false] ((a.put o1.dst (.agg cs)).put o0.dst ((a.put o1.dst (.agg cs)).eval x0)) w.drew
    rw [p0', comm1]
    exact mid
def memPost (xs : List PW) (w : World) (e : Ending) (w' : World) : Prop := ∃ (g B : Nat) (pg : Nat → Option Nat) (A : Option Addr) (c n : Nat), e = .returned (.tuple #[.pointer (some ⟨g, 0, none⟩), .agg (ramC (.slice A n c))]) ∧ Rm w' g B (8 * xs.length) 32768 pg (memM xs xs.length) ∧ Kd.R k131 131 w' w.heap.size (fun _ => True) (.slice A n c) (memL xs xs.length) ∧ KpN w w' ∧ ∀ i, memB g B pg i → w.heap.size ≤ i
set_option maxHeartbeats 8000000 in
set_option maxRecDepth 100000 in
theorem memory_yes (A : Option Addr) (c : Nat) (xs : List PW) (w : World) (hn : xs.length ≤ 60) (hC : Kd.C k72 w A xs.length xs) (hx : putOk xs) :
    Calls Try.prog 9 #[.slice A xs.length c] w (memPost xs w) := by
  have NW : Aside0 (∀ W, Calls Try.prog 29 #[.int .u64 32768] W fun e w' => ∃ g B, e = .returned (.tuple #[.pointer (some ⟨g, 0, none⟩), .int .i64 0]) ∧ Rm w' g B 0 32768 (fun _ => none) (fun _ => 0) ∧ KpN W w' ∧ W.heap.size ≤ g ∧ W.heap.size ≤ B) := ⟨fun W => new_m 32768 W (by decide) (by decide) al32⟩
  have t4 : decide (60 < xs.length) = false := decide_eq_false (by omega)
  have t5 : decide (60 < (xs.length : Int)) = false := decide_eq_false (by omega)
  have Hn := Aside0.mk hn
  have HC := Aside0.mk hC
  clear hn hC
  go_enter Try.func9, Try.ntmps9
  go_wp2_with (first
    | ((with_reducible refine gate_dst (N := 3) rfl ?_); refine al_ev rfl rfl (N := 3) rfl _ (zeroM _) ?_; intro r hg_r w2 hb_r hk_r; have Hg_r := Aside0.mk hg_r; clear hg_r)
    | ((with_reducible refine gate_dst (N := 4) rfl ?_); refine al_ev rfl rfl (N := 4) rfl _ (zeroM _) ?_; intro q hg_q w3 hb_q hk_q; have Hg_q := Aside0.mk hg_q; clear hg_q)
    | ((with_reducible refine gate_store (t := 30) (p := 4) rfl ?_); refine st_ev rfl rfl rfl q (ramC (.slice none 0 0)) _ _ rfl rfl (hb_q) infoM rfl ((by simp [Value.oneCell'])) ?_; intro w4 hs_w4 ks_w4)
    | (go_at_call 29; refine (NW.out _).mono ?_; rintro e w1 ⟨g, B, rfl, hR1, hk1, hg, hB⟩; have hg' := Aside0.mk hg; have hB' := Aside0.mk hB; clear hg hB))
  have Q3 : Bk w4 q (ramC (.slice none 0 0)) RT2 := ⟨hs_w4⟩
  have R2 : Bk w2 r #[.int .u64 0, .slice none 0 0] RT2 := ⟨hb_r⟩
  have hrq : r ≠ q := by have := Hg_q.out; have := blk_lt hb_r; omega
  have R4 := (R2.kp hk_q (fun h => h)).kp ks_w4 hrq
  have K4 : KpN w w4 := (hk_r.trans hk_q).then ks_w4 fun i hi (e : i = q) => by have := Hg_q.out; have := hk_r.size; omega
  have hqw : Aside0 (w.heap.size ≤ q) := ⟨by have := Hg_q.out; have := hk_r.size; omega⟩
  have hrw : Aside0 (w.heap.size ≤ r) := ⟨by have := Hg_r.out; omega⟩
  have I0 : Aside0 (MInv w w1 g B r q (fun _ => none) (.slice none 0 0) xs 0) := ⟨hR1, Kd.R_nil _ _ _ _ _, Q3.kp hk1 (fun h => h), R4.kp hk1 (fun h => h), K4.trans hk1, by
    rintro i (e | e | ⟨_, h⟩)
    · have := hg'.out; have := K4.size; omega
    · have := hB'.out; have := K4.size; omega
    · cases h⟩
  clear hb_r hk_r Hg_r hb_q hk_q Hg_q hs_w4 ks_w4 hR1 hk1 hg' hB' Q3 R2 R4 K4
  go_loopw [7] (fun i W => ∃ (k : Nat) (pg : Nat → Option Nat) (u : Value), k ≤ xs.length ∧ i = .int .i64 k ∧ Aside0 (MInv w W g B r q pg u xs k)) (fun i _ => xs.length - (intOf i).toNat)
  case atStart => exact ⟨0, _, _, Nat.zero_le _, rfl, I0⟩
  case round =>
    obtain ⟨k, pg, u, hk, rfl, Inv⟩ := hrel
    have inv := Inv.out
    by_cases hkn : k < xs.length
    · have hCr : Kd.C k72 wr A xs.length xs := Kd.C_below HC.out (inv.K.below (fun _ _ h => h.elim) (Nat.le_refl _))
      obtain ⟨ad, hA, e0, e1⟩ := at_T72 hCr (k : Int) (by omega) (by omega)
      have er : rd_T72 xs (k : Int) = xs.getD k z72 := by unfold rd_T72; rw [Int.toNat_natCast]
      obtain ⟨a, x, hv, ha, hx0⟩ := putOk_at hx k
      have HM : Aside0 (memM xs (k + 1) = stepM (memM xs k) a x) := ⟨by
        show stepM (memM xs k) (xs.getD k z72).f0.toNat (xs.getD k z72).f1.toNat = _
        rw [hv]; rfl⟩
      have HL : Aside0 (memL xs (k + 1) = stepL (memL xs k) a x) := ⟨by
        show stepL (memL xs k) (xs.getD k z72).f0.toNat (xs.getD k z72).f1.toNat = _
        rw [hv]; rfl⟩
      subst hA
      have HE : Aside0 (∀ W : World, KpN w W → W.cell? (ad.add (k * 2)) = some (.int .u64 (a : Int)) ∧ W.cell? ⟨(ad.add (k * 2)).block, (ad.add (k * 2)).off + 1, none⟩ = some (.int .u64 (x : Int))) := ⟨fun W hW => by
        obtain ⟨ad2, hA2, q0, q1⟩ := at_T72 (Kd.C_below HC.out (hW.below (fun _ _ h => h.elim) (Nat.le_refl _))) (k : Int) (by omega) (by omega)
        obtain rfl : ad = ad2 := Option.some.inj hA2
        rw [er, hv, Int.toNat_natCast] at q0 q1
        exact ⟨q0, q1⟩⟩
      clear e0 e1 er hv hCr
      obtain ⟨e0, e1⟩ := HE.out wr inv.K
      have i0 : (0 : Int) ≤ (k : Int) := by omega
      have i1 : (k : Int) < (xs.length : Int) := by omega
      have i2 : decide ((k : Int) < (xs.length : Int)) = true := decide_eq_true i1
      have i3 : decide (k < xs.length) = true := decide_eq_true hkn
      have i4 : (k : Int) < 60 := by have := Hn.out; omega
      obtain ⟨hb, hhb⟩ : ∃ hb, hasB 32768 a 8 = hb := ⟨_, rfl⟩
      have SA : Aside0 (∀ W, Rm W g B (8 * k) 32768 pg (memM xs k) → Calls Try.prog 30 #[.pointer (some ⟨g, 0, none⟩), .int .u64 (a : Int), .int .i64 8, .int .u64 (x : Int)] W fun e w' => e = .returned (.bool hb) ∧ stPost g B (8 * k + 8) 32768 pg (memM xs (k + 1)) W w') := ⟨fun W h => by
        rw [HM.out, ← hhb]; exact store_any g B (8 * k) 32768 pg (memM xs k) a x W h ha (by decide) (by have := Hn.out; omega) hx0⟩
      have LC : Aside0 (∀ W u ok, KpN w W → Kd.R k131 131 W w.heap.size ok u (memL xs k) → Calls Try.prog 31 #[.agg #[.int .u64 32768, u], .int .u64 (a : Int), .int .i64 8, .int .u64 (x : Int)] W fun e w' => ∃ v1 : Value, e = .returned (.tuple #[.agg #[.int .u64 32768, v1], .bool hb]) ∧ Kd.R k131 131 w' w.heap.size (fun _ => True) v1 (memL xs (k + 1)) ∧ Kp W w' ok) := ⟨fun W u ok hW h => by
        rw [HL.out, ← hhb]; exact rstore_c u (memL xs k) a x w W ok (hW.below (fun _ _ h => h.elim) (Nat.le_refl _)) ha hx0 (by have := memL_len xs k; have := Hn.out; omega) h⟩
      clear HM HL hhb
      clear inv
      go_wp2
      go_still_tail 11, (by kernel_rfl)
      change wpList _ _ _ _ _ wr.drew
      go_wp2_with (go_at_call 30; refine (SA.out wr.drew (Inv.out.R.kpN (Kp.refl _ _).drew)).mono ?_; rintro e wa ⟨rfl, pg', hRa, hKa, hTa⟩)
      have kz : KpN wr wr.drew := (Kp.refl wr _).drew
      have Ka : KpN w wa := (Inv.out.K.trans kz).then hKa fun i hi h => by have := Inv.out.lo i h; omega
      have Qa : Bk wa q (ramC u) RT2 := (Inv.out.Q.kp kz (fun h => h)).kp hKa (Inv.out.R.off Inv.out.Q.blk (by decide) (by decide))
      have Za : Bk wa r #[.int .u64 0, .slice none 0 0] RT2 := (Inv.out.Z.kp kz (fun h => h)).kp hKa (Inv.out.R.off Inv.out.Z.blk (by decide) (by decide))
      have La : Kd.R k131 131 wa w.heap.size (fun _ => True) u (memL xs k) := Kd.R_mono (Kd.R_step (w1 := wa) (R_off Inv.out.L Inv.out.R Inv.out.Q Inv.out.Z) (fun k1 hk1 _ => hKa.block k1 hk1.2.1 hk1.2.2.1)) fun _ _ => trivial
      have lo : Aside0 (∀ i, memB g B pg' i → w.heap.size ≤ i) := ⟨fun i h => by
        rcases hTa i h with h | h
        · exact Inv.out.lo i h
        · exact Nat.le_trans Inv.out.K.size h⟩
      obtain ⟨e0a, e1a⟩ := HE.out wa Ka
      have HKa := Aside0.mk Ka
      have HQa := Aside0.mk Qa
      have HZa := Aside0.mk Za
      have HLa := Aside0.mk La
      have HRa := Aside0.mk hRa
      clear e0 e1 hKa hTa Ka Qa Za La hRa SA Inv kz
      go_wp2
      refine wp_region_still_open 11 5 #[true, true, true, true, true, true, true, true, true, true, true, false, false, false, false, false] (by kernel_rfl) (by kernel_rfl) (by kernel_rfl) ?_
      simp only [List.take_succ_cons, List.take_zero, List.drop_succ_cons, List.drop_zero]
      refine wpStill_ld rfl rfl q rfl _ (ramC u) _ HQa.out.blk Try.underlying30 rfl infoM ?_
      repeat still_step
      try refine wpStill_nil ?_
      have kz : KpN wa wa.drew := (Kp.refl wa _).drew
      have Ld := Kd.R_step (w1 := wa.drew) (R_off HLa.out HRa.out HQa.out HZa.out) (fun k1 _ hk1 => kz.block k1 hk1 (fun h => h))
      have HLd := Aside0.mk Ld
      clear Ld
      refine any_1 (i := 11) (by kernel_rfl) rfl rfl (wp_ca rfl Try.func31 (by kernel_rfl) rfl #[.agg (ramC u), .int .u64 (a : Int), .int .i64 8, .int .u64 (x : Int)] (by simp only [List.map_toArray, List.map_cons, List.map_nil]; rfl) ?_)
      refine (LC.out wa.drew u _ (HKa.out.trans kz) HLd.out).mono ?_
      rintro e wb ⟨v1, rfl, hLb, kb⟩
      obtain ⟨A1, c1, hv1⟩ := Kd.R_slice hLb
      subst hv1
      have hQb := (HQa.out.kp kz (fun h => h)).kp kb (fun h => h.2.2.2.1 rfl)
      refine ⟨_, rfl, ?_⟩
      refine any_1 (i := 12) (by kernel_rfl) rfl rfl (wp_mv rfl ?_)
      refine wp_two (i := 13) (j := 14) (k := 15) rfl rfl rfl rfl rfl rfl (by kernel_rfl) (by kernel_rfl) (by kernel_rfl) (by kernel_rfl) (by kernel_rfl) (by kernel_rfl) (by kernel_rfl) (by kernel_rfl) (by kernel_rfl) rfl rfl rfl rfl #[.agg (ramC (.slice A1 (memL xs (k + 1)).length c1)), .bool hb] (ramC (.slice A1 (memL xs (k + 1)).length c1)) (ramC u) (.bool hb) rfl rfl q infoM rfl (by simp [Value.oneCell']) hQb.blk rfl rfl rfl rfl rfl rfl rfl rfl rfl ?_
      intro wc hs_wc ks_wc
      have hRb : Rm wb g B (8 * (k + 1)) 32768 pg' (memM xs (k + 1)) := (HRa.out.kpN kz).kp kb fun i h hk1 => hk1.2.2.1 h
      have hqB : ∀ i, memB g B pg' i → ¬ i = q := fun i h e => hRb.off hQb.blk (by decide) (by decide) (e ▸ h)
      have hZb := (HZa.out.kp kz (fun h => h)).kp kb (fun h => h.2.2.2.2 rfl)
      have kac : KpN w wc := ((HKa.out.trans kz).then kb fun i hi h => by have := h.1; omega).then ks_wc fun i hi (e : i = q) => by have := hqw.out; omega
      have Lc : Kd.R k131 131 wc w.heap.size (fun _ => True) (.slice A1 (memL xs (k + 1)).length c1) (memL xs (k + 1)) := Kd.R_mono (Kd.R_step (w1 := wc) (R_off hLb hRb hQb hZb) (fun k1 hk1 _ => ks_wc.block k1 hk1.2.1 hk1.2.2.2.1)) fun _ _ => trivial
      have REL : Aside0 (MInv w wc g B r q pg' (.slice A1 (memL xs (k + 1)).length c1) xs (k + 1)) := ⟨hRb.kp ks_wc hqB, Lc, ⟨hs_wc⟩, hZb.kp ks_wc hrq, kac, lo.out⟩
      clear hs_wc ks_wc hRb hqB hZb kac Lc hLb hQb kb HLd kz HRa HLa HZa HQa HKa lo LC HE
      simp only [Act.put, List.setIfInBounds_toArray, List.set_cons_zero, List.set_cons_succ]
      go_wp2
      go_roundw
      case rel => exact ⟨k + 1, _, _, by omega, by go_num, REL⟩
      case measure => simp [intOf]; omega
    · have hke : k = xs.length := by omega
      have i2 : decide ((k : Int) < (xs.length : Int)) = false := decide_eq_false (by omega)
      have i3 : decide (k < xs.length) = false := decide_eq_false hkn
      obtain ⟨A1, c1, hu⟩ := Kd.R_slice inv.L
      subst hu
      have Hke := Aside0.mk hke
      clear hke inv
      go_wp2
      refine mv_out (by kernel_rfl) rfl rfl rfl rfl (by kernel_rfl) (by kernel_rfl) (by kernel_rfl) (by kernel_rfl) (by kernel_rfl) (by kernel_rfl) (by kernel_rfl) rfl rfl rfl rfl rfl Try.underlying30 rfl q r (ramC (.slice A1 (memL xs k).length c1)) #[.int .u64 0, .slice none 0 0] (.pointer (some ⟨g, 0, none⟩)) infoM rfl (by simp [Value.oneCell']) Inv.out.Q.blk Inv.out.Z.blk rfl rfl rfl rfl rfl rfl rfl rfl rfl rfl rfl ?_
      intro wz h5 k5
      go_wp2
      refine bodyPost_ret (results_tc rfl _ _ r (ramC (.slice A1 (memL xs k).length c1)) (.pointer (some ⟨g, 0, none⟩)) _ rfl rfl h5 Try.underlying30 rfl infoM) rfl ?_
      have hkr : ∀ i, memB g B pg i → ¬ i = r := fun i h e => Inv.out.R.off Inv.out.Z.blk (by decide) (by decide) (e ▸ h)
      have e := Hke.out
      have Lz : Kd.R k131 131 wz w.heap.size (fun _ => True) (.slice A1 (memL xs k).length c1) (memL xs k) := Kd.R_mono (Kd.R_step (w1 := wz) (R_off Inv.out.L Inv.out.R Inv.out.Q Inv.out.Z) (fun k1 hk1 _ => k5.block k1 hk1.2.1 hk1.2.2.2.2)) fun _ _ => trivial
      have Rz := Inv.out.R.kp k5 hkr
      rw [e] at Lz Rz
      exact ⟨g, B, pg, A1, c1, _, rfl, Rz, e ▸ Lz, Inv.out.K.then k5 fun i hi (e : i = r) => by have := hrw.out; omega, Inv.out.lo⟩
end Go.Proofs.Ytlhdildnekllhaa.H
