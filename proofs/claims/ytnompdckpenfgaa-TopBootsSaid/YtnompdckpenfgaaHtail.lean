/- A region that draws its order: reads ahead, then a tail whose order is not forced throughout. After the library's proof of 'wp_region_still_tail' (its tail is in one order). -/
import Derived.Test.YtnompdckpenfgaaHreg
import Derived.StillTail
namespace Go.Proofs.Ytnompdckpenfgaa.H
open Go.RowKit Go.Proofs.YtnompdckpenfgaaW.PrintWords Go.Proofs.YtnompdckpenfgaaW.PrintLast Go.Proofs.Ytnompdckpenfgaa.PAl
set_option linter.unusedVariables false
set_option linter.unusedSimpArgs false
section
variable {P : Program} {ops : Array Oper} {md : Region.Mode} {w : World}
/-- Each operation of the tail behind its first waits for one of the tail. -/
def chainR (md : Region.Mode) (ops : Array Oper) (n : Nat) : Bool :=
  (List.range ops.size).all fun t => decide (t ≤ n) || (List.range t).any fun s => decide (n ≤ s) && Region.waitsFor md ops t s
theorem tail_waitsR {n : Nat} {listed : Array Bool} (hs : Region.sinkB md ops n = true) (hc : chainR md ops n = true) (hn : n < ops.size) (inv : HeadInv md ops n listed) :
    ∀ (d i : Nat), n - i = d → i < n → listed.getD i true = false → ∀ t, n ≤ t → t ∉ Region.ready md ops listed := by
  intro d
  induction d using Nat.strongRecOn with
  | _ d ih =>
    intro i hd hi hun t ht hr
    obtain ⟨_, ot, hot, hall⟩ := mem_ready.1 hr
    have htlt : t < ops.size := (Array.getElem?_eq_some_iff.1 hot).1
    by_cases htn : t = n
    · subst htn
      have h1 := List.all_eq_true.1 hs i (List.mem_range.2 hi)
      obtain ⟨j, hj, hj2⟩ := List.any_eq_true.1 h1
      simp only [Bool.and_eq_true, decide_eq_true_eq] at hj2
      obtain ⟨oj, hoj, e, he, hb, hon⟩ := Region.waitsFor_spec hj2.2
      have hjle : j ≤ t := by have := List.mem_range.1 hj; omega
      by_cases hjt : j = t
      · subst hjt
        have : oj = ot := Option.some.inj (hoj.symm.trans hot)
        subst this
        have h2 := hall e he hb
        rw [hon, getD_both hun] at h2
        cases h2
      · cases hl : listed.getD j false with
        | true =>
          have h2 := inv.closed j oj hoj hl e he hb
          rw [hon, getD_both hun] at h2
          cases h2
        | false =>
          have hjs : j < listed.size := by rw [inv.size]; omega
          exact ih (t - j) (by omega) j rfl (by omega) (getD_in hjs hl) t (Nat.le_refl _) hr
    · have h1 := List.all_eq_true.1 hc t (List.mem_range.2 htlt)
      simp only [Bool.or_eq_true, decide_eq_true_eq] at h1
      rcases h1 with h1 | h1
      · omega
      · obtain ⟨s, hs1, hs2⟩ := List.any_eq_true.1 h1
        simp only [Bool.and_eq_true, decide_eq_true_eq] at hs2
        have hst := List.mem_range.1 hs1
        obtain ⟨o', ho', e, he, hb, hon⟩ := Region.waitsFor_spec hs2.2
        have : o' = ot := Option.some.inj (ho'.symm.trans hot)
        subst this
        have h2 := hall e he hb
        rw [hon, getD_both (inv.tail s hs2.1 (by omega))] at h2
        cases h2
theorem wpAnyL_firstR {n i : Nat} {oi : Oper} {v : Value} {L : Array Bool → Act → Prop} (hi : ops[i]? = some oi) (hsel : ∀ (j : Nat) (o : Oper) cs b, ops[j]? = some o → o.op ≠ .select cs b)
    (hs : Region.sinkB md ops n = true) (hc : chainR md ops n = true) (hn : n < ops.size) (hin : i < n)
    (hdone : ∀ listed a, L listed a → ∀ j ∈ Region.ready md ops listed, n ≤ j) :
    ∀ (f : Nat) (listed : Array Bool) (a : Act), HeadInv md ops n listed →
      (∀ j oj, ops[j]? = some oj → j ≠ i → listed.getD j true = false → (∀ e ∈ oj.after, Region.binds md e = true → e.on ≠ i) → oi.apart ops oj = true) →
      i ∈ Region.ready md ops listed → YieldsAt P ops w oi v a →
      wpAnyL P md ops w n L f (listed.setIfInBounds i true) (a.put oi.dst v) → wpAnyL P md ops w n L (f + 1) listed a := by
  intro f
  induction f with
  | zero =>
    intro listed a inv _ hr hy H
    have hun := (mem_ready.1 hr).1
    refine ⟨fun h => (by rw [h] at hr; cases hr), fun j hj => ?_⟩
    have hjn : j < n := by
      rcases Nat.lt_or_ge j n with h | h
      · exact h
      · exact absurd hj (tail_waitsR hs hc hn inv _ i rfl hin hun j h)
    refine ⟨hjn, ?_⟩
    by_cases hji : j = i
    · subst hji; exact hy.stOp hi H
    · have := hdone _ _ H j (ready_mono hj hji)
      omega
  | succ f ih =>
    intro listed a inv hfree hr hy H
    have hun := (mem_ready.1 hr).1
    refine ⟨fun h => (by rw [h] at hr; cases hr), fun j hj => ?_⟩
    have hjn : j < n := by
      rcases Nat.lt_or_ge j n with h | h
      · exact h
      · exact absurd hj (tail_waitsR hs hc hn inv _ i rfl hin hun j h)
    refine ⟨hjn, ?_⟩
    by_cases hji : j = i
    · subst hji; exact hy.stOp hi H
    · have h1 := (H.2 j (ready_mono hj hji)).2
      obtain ⟨hjun, oj, hoj, hall⟩ := mem_ready.1 hj
      have hnot : ∀ e ∈ oj.after, Region.binds md e = true → e.on ≠ i := fun e he hb heq => by
        have h1 := hall e he hb
        rw [heq, getD_both hun] at h1
        cases h1
      have h2 := stOp_put hoj (hfree j oj hoj hji hjun hnot) (fun cs b => hsel i oi cs b hi) (fun cs b => hsel j oj cs b hoj) hy h1
      have hfree' : ∀ k ok, ops[k]? = some ok → k ≠ i → (listed.setIfInBounds j true).getD k true = false →
          (∀ e ∈ ok.after, Region.binds md e = true → e.on ≠ i) → oi.apart ops ok = true := fun k ok hk hki hun hno => by
        refine hfree k ok hk hki ?_ hno
        by_cases hjk : j = k
        · subst hjk; exact hjun
        · rw [getD_set_ne true hjk] at hun; exact hun
      refine stOp_mono (fun a' h3 => ih (listed.setIfInBounds j true) a' (inv.set hj hjn) hfree' (ready_mono hr (Ne.symm hji)) h3.1 ?_) h2
      rw [Array.setIfInBounds_comm _ _ hji]
      exact h3.2
/-- The head in its own order, then the tail's. -/
def headR (md : Region.Mode) (ops : Array Oper) (n : Nat) (L0 : Array Bool) : Nat → Nat → Array Bool → Bool
  | 0, _, listed => (listed == L0) && (Region.ready md ops listed).all fun j => decide (n ≤ j)
  | f + 1, k, listed => (Region.ready md ops listed).contains k && Region.free md ops listed k && headR md ops n L0 f (k + 1) (listed.setIfInBounds k true)
def openR (md : Region.Mode) (ops : Array Oper) (n : Nat) (L0 : Array Bool) : Bool :=
  Region.noSelect ops && decide (n < ops.size) && Region.sinkB md ops n && chainR md ops n && headR md ops n L0 n 0 (Array.replicate ops.size false)
theorem wpAnyL_lexR {n : Nat} {L0 : Array Bool} {Lq : Act → Prop} (hsel : Region.noSelect ops = true) (hs : Region.sinkB md ops n = true) (hc : chainR md ops n = true) (hn : n < ops.size) :
    ∀ (l : List Oper) (k : Nat) (listed : Array Bool) (a : Act), (∀ j, j < l.length → l[j]? = ops[k + j]?) → k + l.length = n → HeadInv md ops n listed →
    headR md ops n L0 l.length k listed = true → wpStill P ops w Lq l a →
    wpAnyL P md ops w n (fun listed' a' => listed' = L0 ∧ ((Region.ready md ops listed').all fun j => decide (n ≤ j)) = true ∧ Lq a') l.length listed a
  | [], k, listed, a, _, hk, _, hB, h => by
    have : k = n := by simpa using hk
    subst this
    simp only [List.length_nil, headR, Bool.and_eq_true] at hB
    exact ⟨by simpa using hB.1, hB.2, h⟩
  | o :: l, k, listed, a, hl, hk, inv, hB, h => by
    have h0 : ops[k]? = some o := by simpa using (hl 0 (by simp)).symm
    simp only [List.length_cons, headR, Bool.and_eq_true] at hB
    obtain ⟨⟨hr, hf⟩, hB'⟩ := hB
    have hkn : k < n := by simp only [List.length_cons] at hk; omega
    have hr' : k ∈ Region.ready md ops listed := by simpa using hr
    have hst : stOp P ops w k (wpStill P ops w Lq l) a := by unfold stOp; simp only [h0]; exact h
    obtain ⟨v, hy, hK⟩ := yieldsAt_of_stOp h0 hst
    exact wpAnyL_firstR h0 (Region.noSelect_spec hsel) hs hc hn hkn (fun listed' a' hL j hj => by simpa using List.all_eq_true.1 hL.2.1 j hj) l.length listed a inv (Region.free_spec h0 hf) hr' hy
      (wpAnyL_lexR hsel hs hc hn l (k + 1) _ _ (fun j hj => by have := hl (j + 1) (by simp; omega); simpa [Nat.add_assoc, Nat.add_comm 1 j] using this) (by simp only [List.length_cons] at hk; omega) (inv.set hr' hkn) hB' hK)
theorem wp_region_still_open {id : Nat} {Q : Exit → Act → World → Prop} {a : Act} {w : World} {l : List Oper} (n g : Nat) (L0 : Array Bool) (hm : P.follows .mixedOrders = true) (hB : openR .any l.toArray n L0 = true) (hg : n + g = l.length)
    (h : wpStill P l.toArray w.drew (fun a' => wpAny P .any l.toArray Q g L0 a' w.drew) (l.take n) a) : (Code.region id l.toArray true).wp P Q a w := by
  simp only [openR, Bool.and_eq_true, decide_eq_true_eq] at hB
  obtain ⟨⟨⟨⟨hsel, hn⟩, hs⟩, hc⟩, hlex⟩ := hB
  have htl : (l.take n).length = n := by simp; omega
  have inv0 : HeadInv .any l.toArray n (Array.replicate l.toArray.size false) :=
    ⟨by simp, fun j oj _ hl => (by rw [getD_replicate_false] at hl; cases hl), fun t _ ht => getD_in (by simpa using ht) (getD_replicate_false _ _)⟩
  have H := wpAnyL_lexR (md := .any) (L0 := L0) hsel hs hc hn (l.take n) 0 _ a (fun j hj => by
    have hj' : j < n := by rw [htl] at hj; exact hj
    simp [hj']) (by simpa using htl) inv0 (by rw [htl]; exact hlex) h
  refine wp_region_any hm ?_
  have := wpAny_of_head (Q' := Q) (g := g) (fun listed a' hL => by rw [hL.1]; exact hL.2.2) _ _ _ H
  rw [htl, hg, show l.length = l.toArray.size by simp] at this
  exact this
theorem wp_mv {Q : Exit → Act → World → Prop} {o : Oper} {a : Act} {w : World} {K : Act → World → Prop} {x : Operand} (ho : o.op = .move x) (h : K (a.put o.dst (a.eval x)) w) : o.wp P a w K Q := by
  unfold Oper.wp execOp
  simp only [ho]
  exact h
theorem wp_ex {Q : Exit → Act → World → Prop} {o : Oper} {a : Act} {w : World} {K : Act → World → Prop} {x : Operand} {j : Nat} (ho : o.op = .extract x j) (vs : Array Value) (v : Value) (hx : a.eval x = .tuple vs) (hj : vs[j]? = some v) (h : K (a.put o.dst v) w) : o.wp P a w K Q := by
  unfold Oper.wp execOp
  simp only [ho, hx, Instr.extract, hj, Sem.run_bind, Sem.run_pure, Result.andThen_ok]
  exact h
theorem wp_ca {Q : Exit → Act → World → Prop} {o : Oper} {a : Act} {w : World} {K : Act → World → Prop} {f : FuncId} {fn : Func} {as_ : Array Operand} {ts : Array TypeId} (hop : o.op = .call { callee := .value (.func f), args := as_, argTypes := ts })
    (hf : P.funcs[f]? = some fn) (hname : (fn.name == "runtime.NumGoroutine") = false) (hb : fn.body.isSome = true) (args : Array Value) (hargs : as_.map a.eval = args)
    (h : Calls P f args w fun e w' => ∃ v, e = .returned v ∧ K (a.put o.dst v) w') : o.wp P a w K Q := by
  have he := enters_ hf hname hb args w
  have hrun : (execOp a.eval o).run P w = .ok (.enter f args) w := by
    unfold execOp
    simp [hop, resolve, Deferred.ofValue, invoke, Act.eval, hargs, he]
  unfold Oper.wp
  rw [hrun, Oper.upon_enter]
  refine h.mono fun e w'' hh => ?_
  obtain ⟨v, rfl, hk⟩ := hh
  exact hk
/-- '_, x = f(..)', 'x, _ = f(..)': two are taken out of a tuple, and the first one is stored. -/
theorem wp_two {Q : Exit → Act → World → Prop} {i j k : Nat} {oi oj ok : Oper} {L : Array Bool} {a : Act} {w : World}
    (hi : ops[i]? = some oi) (hj : ops[j]? = some oj) (hk : ops[k]? = some ok) (gi : oi.guard = none) (gj : oj.guard = none) (gk : ok.guard = none)
    (r0 : Region.ready md ops L = [i, j])
    (r1 : Region.ready md ops (L.setIfInBounds i true) = [j, k])
    (r2 : Region.ready md ops (L.setIfInBounds j true) = [i])
    (r3 : Region.ready md ops ((L.setIfInBounds i true).setIfInBounds j true) = [k])
    (r4 : Region.ready md ops ((L.setIfInBounds j true).setIfInBounds i true) = [k])
    (r5 : Region.ready md ops ((L.setIfInBounds i true).setIfInBounds k true) = [j])
    (d1 : Region.ready md ops (((L.setIfInBounds i true).setIfInBounds j true).setIfInBounds k true) = [])
    (d2 : Region.ready md ops (((L.setIfInBounds j true).setIfInBounds i true).setIfInBounds k true) = [])
    (d3 : Region.ready md ops (((L.setIfInBounds i true).setIfInBounds k true).setIfInBounds j true) = [])
    {xi xj xk yk : Operand} {ni nj : Nat} {T : TypeId} (ei : oi.op = .extract xi ni) (ej : oj.op = .extract xj nj) (ek : ok.op = .store T xk yk) (nk : ok.dst = none)
    (vs : Array Value) (cs zs : Array Value) (v : Value) (h0 : vs[ni]? = some (.agg cs)) (h1 : vs[nj]? = some v)
    (g : Nat) (i0 : (P.info? T).map (·.size) = some cs.size) (s0 : zs.size = cs.size) (o0 : cs.all (·.oneCell') = true) (b0 : w.heap[g]? = some (.cells zs T (0, 0)))
    (p0 : a.eval xi = .tuple vs) (p1 : a.eval xj = .tuple vs) (p2 : (a.put oi.dst (.agg cs)).eval xj = .tuple vs) (p3 : (a.put oj.dst v).eval xi = .tuple vs)
    (comm : (a.put oj.dst v).put oi.dst (.agg cs) = (a.put oi.dst (.agg cs)).put oj.dst v)
    (q0 : ((a.put oi.dst (.agg cs)).put oj.dst v).eval xk = .pointer (some ⟨g, 0, none⟩)) (q1 : ((a.put oi.dst (.agg cs)).put oj.dst v).eval yk = .agg cs)
    (q2 : (a.put oi.dst (.agg cs)).eval xk = .pointer (some ⟨g, 0, none⟩)) (q3 : (a.put oi.dst (.agg cs)).eval yk = .agg cs)
    (h : ∀ w1, w1.heap[g]? = some (.cells cs T (0, 0)) → Kp w w1 (fun i => i = g) → Q .normal ((a.put oi.dst (.agg cs)).put oj.dst v) w1) :
    wpAny P md ops Q 3 L a w := by
  have last : ∀ L' : Array Bool, Region.ready md ops L' = [k] → Region.ready md ops (L'.setIfInBounds k true) = [] → wpAny P md ops Q 1 L' ((a.put oi.dst (.agg cs)).put oj.dst v) w := fun L' e1 e2 =>
    any_1 e1 hk gk (wp_st ek nk g cs zs T q0 q1 b0 i0 s0 o0 fun w1 t k1 => wpAny_done e2 (h w1 t k1) _)
  refine any_2 r0 hi gi hj gj ?_ ?_
  · refine wp_ex ei vs (.agg cs) p0 h0 ?_
    refine any_2 r1 hj gj hk gk ?_ ?_
    · exact wp_ex ej vs v p2 h1 (last _ r3 d1)
    · refine wp_st ek nk g cs zs T q2 q3 b0 i0 s0 o0 fun w1 t k1 => ?_
      exact any_1 r5 hj gj (wp_ex ej vs v p2 h1 (wpAny_done d3 (h w1 t k1) _))
  · refine wp_ex ej vs v p1 h1 ?_
    refine any_1 r2 hi gi (wp_ex ei vs (.agg cs) p3 h0 ?_)
    rw [comm]
    exact last _ r4 d2
end
end Go.Proofs.Ytnompdckpenfgaa.H
