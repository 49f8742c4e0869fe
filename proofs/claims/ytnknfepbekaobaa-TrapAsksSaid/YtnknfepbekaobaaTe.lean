/- Open tails, regions told by their order, and the law of what may be asked. -/
import Derived.Test.YtnknfepbekaobaaTd
import Derived.StillTail
/- A region that draws its order: reads ahead, then a tail whose order is not forced throughout. After the library's proof of 'wp_region_still_tail' (its tail is in one order). -/
namespace Go.Proofs.Ytnknfepbekaobaa.H
open Go.RowKit Go.Proofs.YtnknfepbekaobaaW.PrintWords Go.Proofs.YtnknfepbekaobaaW.PrintLast Go.Proofs.Ytnknfepbekaobaa.PAl
set_option linter.unusedVariables false
set_option linter.unusedSimpArgs false
section
variable {P : Program} {ops : Array Oper} {md : Region.Mode} {w : World}
/-- Each operation of the tail behind its first waits for one of the tail. -/
def chainR (md : Region.Mode) (ops : Array Oper) (n : Nat) : Bool :=
  (List.range ops.size).all fun t => decide (t ≤ n) || (List.range t).any fun s => decide (n ≤ s) && Region.waitsFor md ops t s
theorem tail_waitsR {n : Nat} {listed : Array Bool} (hs : Region.sinkB md ops n = true) (hc : chainR md ops n = true) (hn : n < ops.size) (inv : HeadInv md ops n listed) :
    ∀ (d i : Nat), n - i = d → i < n → listed.getD i true = false → ∀ t, n ≤ t → t ∉ Region.ready md ops listed := by
  intro d
  induction d using Nat.strongRecOn with
  | _ d ih =>
    intro i hd hi hun t ht hr
    obtain ⟨_, ot, hot, hall⟩ := mem_ready.1 hr
    have htlt : t < ops.size := (Array.getElem?_eq_some_iff.1 hot).1
    by_cases htn : t = n
    · subst htn
      have h1 := List.all_eq_true.1 hs i (List.mem_range.2 hi)
      obtain ⟨j, hj, hj2⟩ := List.any_eq_true.1 h1
      simp only [Bool.and_eq_true, decide_eq_true_eq] at hj2
      obtain ⟨oj, hoj, e, he, hb, hon⟩ := Region.waitsFor_spec hj2.2
      have hjle : j ≤ t := by have := List.mem_range.1 hj; omega
      by_cases hjt : j = t
      · subst hjt
        have : oj = ot := Option.some.inj (hoj.symm.trans hot)
        subst this
        have h2 := hall e he hb
        rw [hon, getD_both hun] at h2
        cases h2
      · cases hl : listed.getD j false with
        | true =>
          have h2 := inv.closed j oj hoj hl e he hb
          rw [hon, getD_both hun] at h2
          cases h2
        | false =>
          have hjs : j < listed.size := by rw [inv.size]; omega
          exact ih (t - j) (by omega) j rfl (by omega) (getD_in hjs hl) t (Nat.le_refl _) hr
    · have h1 := List.all_eq_true.1 hc t (List.mem_range.2 htlt)
      simp only [Bool.or_eq_true, decide_eq_true_eq] at h1
      rcases h1 with h1 | h1
      · omega
      · obtain ⟨s, hs1, hs2⟩ := List.any_eq_true.1 h1
        simp only [Bool.and_eq_true, decide_eq_true_eq] at hs2
        have hst := List.mem_range.1 hs1
        obtain ⟨o', ho', e, he, hb, hon⟩ := Region.waitsFor_spec hs2.2
        have : o' = ot := Option.some.inj (ho'.symm.trans hot)
        subst this
        have h2 := hall e he hb
        rw [hon, getD_both (inv.tail s hs2.1 (by omega))] at h2
        cases h2
theorem wpAnyL_firstR {n i : Nat} {oi : Oper} {v : Value} {L : Array Bool → Act → Prop} (hi : ops[i]? = some oi) (hsel : ∀ (j : Nat) (o : Oper) cs b, ops[j]? = some o → o.op ≠ .select cs b)
    (hs : Region.sinkB md ops n = true) (hc : chainR md ops n = true) (hn : n < ops.size) (hin : i < n)
    (hdone : ∀ listed a, L listed a → ∀ j ∈ Region.ready md ops listed, n ≤ j) :
    ∀ (f : Nat) (listed : Array Bool) (a : Act), HeadInv md ops n listed →
      (∀ j oj, ops[j]? = some oj → j ≠ i → listed.getD j true = false → (∀ e ∈ oj.after, Region.binds md e = true → e.on ≠ i) → oi.apart ops oj = true) →
      i ∈ Region.ready md ops listed → YieldsAt P ops w oi v a →
      wpAnyL P md ops w n L f (listed.setIfInBounds i true) (a.put oi.dst v) → wpAnyL P md ops w n L (f + 1) listed a := by
  intro f
  induction f with
  | zero =>
    intro listed a inv _ hr hy H
    have hun := (mem_ready.1 hr).1
    refine ⟨fun h => (by rw [h] at hr; cases hr), fun j hj => ?_⟩
    have hjn : j < n := by
      rcases Nat.lt_or_ge j n with h | h
      · exact h
      · exact absurd hj (tail_waitsR hs hc hn inv _ i rfl hin hun j h)
    refine ⟨hjn, ?_⟩
    by_cases hji : j = i
    · subst hji; exact hy.stOp hi H
    · have := hdone _ _ H j (ready_mono hj hji)
      omega
  | succ f ih =>
    intro listed a inv hfree hr hy H
    have hun := (mem_ready.1 hr).1
    refine ⟨fun h => (by rw [h] at hr; cases hr), fun j hj => ?_⟩
    have hjn : j < n := by
      rcases Nat.lt_or_ge j n with h | h
      · exact h
      · exact absurd hj (tail_waitsR hs hc hn inv _ i rfl hin hun j h)
    refine ⟨hjn, ?_⟩
    by_cases hji : j = i
    · subst hji; exact hy.stOp hi H
    · have h1 := (H.2 j (ready_mono hj hji)).2
      obtain ⟨hjun, oj, hoj, hall⟩ := mem_ready.1 hj
      have hnot : ∀ e ∈ oj.after, Region.binds md e = true → e.on ≠ i := fun e he hb heq => by
        have h1 := hall e he hb
        rw [heq, getD_both hun] at h1
        cases h1
      have h2 := stOp_put hoj (hfree j oj hoj hji hjun hnot) (fun cs b => hsel i oi cs b hi) (fun cs b => hsel j oj cs b hoj) hy h1
      have hfree' : ∀ k ok, ops[k]? = some ok → k ≠ i → (listed.setIfInBounds j true).getD k true = false →
          (∀ e ∈ ok.after, Region.binds md e = true → e.on ≠ i) → oi.apart ops ok = true := fun k ok hk hki hun hno => by
        refine hfree k ok hk hki ?_ hno
        by_cases hjk : j = k
        · subst hjk; exact hjun
        · rw [getD_set_ne true hjk] at hun; exact hun
      refine stOp_mono (fun a' h3 => ih (listed.setIfInBounds j true) a' (inv.set hj hjn) hfree' (ready_mono hr (Ne.symm hji)) h3.1 ?_) h2
      rw [Array.setIfInBounds_comm _ _ hji]
      exact h3.2
/-- The head in its own order, then the tail's. -/
def headR (md : Region.Mode) (ops : Array Oper) (n : Nat) (L0 : Array Bool) : Nat → Nat → Array Bool → Bool
  | 0, _, listed => (listed == L0) && (Region.ready md ops listed).all fun j => decide (n ≤ j)
  | f + 1, k, listed => (Region.ready md ops listed).contains k && Region.free md ops listed k && headR md ops n L0 f (k + 1) (listed.setIfInBounds k true)
def openR (md : Region.Mode) (ops : Array Oper) (n : Nat) (L0 : Array Bool) : Bool :=
  Region.noSelect ops && decide (n < ops.size) && Region.sinkB md ops n && chainR md ops n && headR md ops n L0 n 0 (Array.replicate ops.size false)
theorem wpAnyL_lexR {n : Nat} {L0 : Array Bool} {Lq : Act → Prop} (hsel : Region.noSelect ops = true) (hs : Region.sinkB md ops n = true) (hc : chainR md ops n = true) (hn : n < ops.size) :
    ∀ (l : List Oper) (k : Nat) (listed : Array Bool) (a : Act), (∀ j, j < l.length → l[j]? = ops[k + j]?) → k + l.length = n → HeadInv md ops n listed →
    headR md ops n L0 l.length k listed = true → wpStill P ops w Lq l a →
    wpAnyL P md ops w n (fun listed' a' => listed' = L0 ∧ ((Region.ready md ops listed').all fun j => decide (n ≤ j)) = true ∧ Lq a') l.length listed a
  | [], k, listed, a, _, hk, _, hB, h => by
    have : k = n := by simpa using hk
    subst this
    simp only [List.length_nil, headR, Bool.and_eq_true] at hB
    exact ⟨by simpa using hB.1, hB.2, h⟩
  | o :: l, k, listed, a, hl, hk, inv, hB, h => by
    have h0 : ops[k]? = some o := by simpa using (hl 0 (by simp)).symm
    simp only [List.length_cons, headR, Bool.and_eq_true] at hB
    obtain ⟨⟨hr, hf⟩, hB'⟩ := hB
    have hkn : k < n := by simp only [List.length_cons] at hk; omega
    have hr' : k ∈ Region.ready md ops listed := by simpa using hr
    have hst : stOp P ops w k (wpStill P ops w Lq l) a := by unfold stOp; simp only [h0]; exact h
    obtain ⟨v, hy, hK⟩ := yieldsAt_of_stOp h0 hst
    exact wpAnyL_firstR h0 (Region.noSelect_spec hsel) hs hc hn hkn (fun listed' a' hL j hj => by simpa using List.all_eq_true.1 hL.2.1 j hj) l.length listed a inv (Region.free_spec h0 hf) hr' hy
      (wpAnyL_lexR hsel hs hc hn l (k + 1) _ _ (fun j hj => by have := hl (j + 1) (by simp; omega); simpa [Nat.add_assoc, Nat.add_comm 1 j] using this) (by simp only [List.length_cons] at hk; omega) (inv.set hr' hkn) hB' hK)
theorem wp_region_still_open {id : Nat} {Q : Exit → Act → World → Prop} {a : Act} {w : World} {l : List Oper} (n g : Nat) (L0 : Array Bool) (hm : P.follows .mixedOrders = true) (hB : openR .any l.toArray n L0 = true) (hg : n + g = l.length)
    (h : wpStill P l.toArray w.drew (fun a' => wpAny P .any l.toArray Q g L0 a' w.drew) (l.take n) a) : (Code.region id l.toArray true).wp P Q a w := by
  simp only [openR, Bool.and_eq_true, decide_eq_true_eq] at hB
  obtain ⟨⟨⟨⟨hsel, hn⟩, hs⟩, hc⟩, hlex⟩ := hB
  have htl : (l.take n).length = n := by simp; omega
  have inv0 : HeadInv .any l.toArray n (Array.replicate l.toArray.size false) :=
    ⟨by simp, fun j oj _ hl => (by rw [getD_replicate_false] at hl; cases hl), fun t _ ht => getD_in (by simpa using ht) (getD_replicate_false _ _)⟩
  have H := wpAnyL_lexR (md := .any) (L0 := L0) hsel hs hc hn (l.take n) 0 _ a (fun j hj => by
    have hj' : j < n := by rw [htl] at hj; exact hj
    simp [hj']) (by simpa using htl) inv0 (by rw [htl]; exact hlex) h
  refine wp_region_any hm ?_
  have := wpAny_of_head (Q' := Q) (g := g) (fun listed a' hL => by rw [hL.1]; exact hL.2.2) _ _ _ H
  rw [htl, hg, show l.length = l.toArray.size by simp] at this
  exact this
theorem wp_mv {Q : Exit → Act → World → Prop} {o : Oper} {a : Act} {w : World} {K : Act → World → Prop} {x : Operand} (ho : o.op = .move x) (h : K (a.put o.dst (a.eval x)) w) : o.wp P a w K Q := by
  unfold Oper.wp execOp
  simp only [ho]
  exact h
theorem wp_ex {Q : Exit → Act → World → Prop} {o : Oper} {a : Act} {w : World} {K : Act → World → Prop} {x : Operand} {j : Nat} (ho : o.op = .extract x j) (vs : Array Value) (v : Value) (hx : a.eval x = .tuple vs) (hj : vs[j]? = some v) (h : K (a.put o.dst v) w) : o.wp P a w K Q := by
  unfold Oper.wp execOp
  simp only [ho, hx, Instr.extract, hj, Sem.run_bind, Sem.run_pure, Result.andThen_ok]
  exact h
theorem wp_ca {Q : Exit → Act → World → Prop} {o : Oper} {a : Act} {w : World} {K : Act → World → Prop} {f : FuncId} {fn : Func} {as_ : Array Operand} {ts : Array TypeId} (hop : o.op = .call { callee := .value (.func f), args := as_, argTypes := ts })
    (hf : P.funcs[f]? = some fn) (hname : (fn.name == "runtime.NumGoroutine") = false) (hb : fn.body.isSome = true) (args : Array Value) (hargs : as_.map a.eval = args)
    (h : Calls P f args w fun e w' => ∃ v, e = .returned v ∧ K (a.put o.dst v) w') : o.wp P a w K Q := by
  have he := enters_ hf hname hb args w
  have hrun : (execOp a.eval o).run P w = .ok (.enter f args) w := by
    unfold execOp
    simp [hop, resolve, Deferred.ofValue, invoke, Act.eval, hargs, he]
  unfold Oper.wp
  rw [hrun, Oper.upon_enter]
  refine h.mono fun e w'' hh => ?_
  obtain ⟨v, rfl, hk⟩ := hh
  exact hk
/-- '_, x = f(..)', 'x, _ = f(..)': two are taken out of a tuple, and the first one is stored. -/
theorem wp_two {Q : Exit → Act → World → Prop} {i j k : Nat} {oi oj ok : Oper} {L : Array Bool} {a : Act} {w : World}
    (hi : ops[i]? = some oi) (hj : ops[j]? = some oj) (hk : ops[k]? = some ok) (gi : oi.guard = none) (gj : oj.guard = none) (gk : ok.guard = none)
    (r0 : Region.ready md ops L = [i, j])
    (r1 : Region.ready md ops (L.setIfInBounds i true) = [j, k])
    (r2 : Region.ready md ops (L.setIfInBounds j true) = [i])
    (r3 : Region.ready md ops ((L.setIfInBounds i true).setIfInBounds j true) = [k])
    (r4 : Region.ready md ops ((L.setIfInBounds j true).setIfInBounds i true) = [k])
    (r5 : Region.ready md ops ((L.setIfInBounds i true).setIfInBounds k true) = [j])
    (d1 : Region.ready md ops (((L.setIfInBounds i true).setIfInBounds j true).setIfInBounds k true) = [])
    (d2 : Region.ready md ops (((L.setIfInBounds j true).setIfInBounds i true).setIfInBounds k true) = [])
    (d3 : Region.ready md ops (((L.setIfInBounds i true).setIfInBounds k true).setIfInBounds j true) = [])
    {xi xj xk yk : Operand} {ni nj : Nat} {T : TypeId} (ei : oi.op = .extract xi ni) (ej : oj.op = .extract xj nj) (ek : ok.op = .store T xk yk) (nk : ok.dst = none)
    (vs : Array Value) (cs zs : Array Value) (v : Value) (h0 : vs[ni]? = some (.agg cs)) (h1 : vs[nj]? = some v)
    (g : Nat) (i0 : (P.info? T).map (·.size) = some cs.size) (s0 : zs.size = cs.size) (o0 : cs.all (·.oneCell') = true) (b0 : w.heap[g]? = some (.cells zs T (0, 0)))
    (p0 : a.eval xi = .tuple vs) (p1 : a.eval xj = .tuple vs) (p2 : (a.put oi.dst (.agg cs)).eval xj = .tuple vs) (p3 : (a.put oj.dst v).eval xi = .tuple vs)
    (comm : (a.put oj.dst v).put oi.dst (.agg cs) = (a.put oi.dst (.agg cs)).put oj.dst v)
    (q0 : ((a.put oi.dst (.agg cs)).put oj.dst v).eval xk = .pointer (some ⟨g, 0, none⟩)) (q1 : ((a.put oi.dst (.agg cs)).put oj.dst v).eval yk = .agg cs)
    (q2 : (a.put oi.dst (.agg cs)).eval xk = .pointer (some ⟨g, 0, none⟩)) (q3 : (a.put oi.dst (.agg cs)).eval yk = .agg cs)
    (h : ∀ w1, w1.heap[g]? = some (.cells cs T (0, 0)) → Kp w w1 (fun i => i = g) → Q .normal ((a.put oi.dst (.agg cs)).put oj.dst v) w1) :
    wpAny P md ops Q 3 L a w := by
  have last : ∀ L' : Array Bool, Region.ready md ops L' = [k] → Region.ready md ops (L'.setIfInBounds k true) = [] → wpAny P md ops Q 1 L' ((a.put oi.dst (.agg cs)).put oj.dst v) w := fun L' e1 e2 =>
    any_1 e1 hk gk (wp_st ek nk g cs zs T q0 q1 b0 i0 s0 o0 fun w1 t k1 => wpAny_done e2 (h w1 t k1) _)
  refine any_2 r0 hi gi hj gj ?_ ?_
  · refine wp_ex ei vs (.agg cs) p0 h0 ?_
    refine any_2 r1 hj gj hk gk ?_ ?_
    · exact wp_ex ej vs v p2 h1 (last _ r3 d1)
    · refine wp_st ek nk g cs zs T q2 q3 b0 i0 s0 o0 fun w1 t k1 => ?_
      exact any_1 r5 hj gj (wp_ex ej vs v p2 h1 (wpAny_done d3 (h w1 t k1) _))
  · refine wp_ex ej vs v p1 h1 ?_
    refine any_1 r2 hi gi (wp_ex ei vs (.agg cs) p3 h0 ?_)
    rw [comm]
    exact last _ r4 d2
end
end Go.Proofs.Ytnknfepbekaobaa.H
/- A region that draws its order: a head of operations that read, or lay new blocks, each told by what its value is (a relation that later laying keeps), in whatever order; then the tail. -/
namespace Go.Proofs.Ytnknfepbekaobaa.H
open Go.RowKit Go.Proofs.YtnknfepbekaobaaW.PrintWords Go.Proofs.YtnknfepbekaobaaW.PrintLast Go.Proofs.Ytnknfepbekaobaa.PAl
set_option linter.unusedVariables false
set_option linter.unusedSimpArgs false
section
variable {P : Program} {ops : Array Oper}
structure Ag (n : Nat) (d : Nat → Tmp) (a0 a : Act) : Prop where
  size : a.tmps.size = a0.tmps.size
  defers : a.defers = a0.defers
  old : ∀ s, (∀ i, i < n → d i ≠ s) → a.tmps.getD s undef = a0.tmps.getD s undef
theorem put_size (a : Act) (o : Option Tmp) (v : Value) : (a.put o v).tmps.size = a.tmps.size := by
  cases o <;> simp [Act.put]
theorem put_same (a : Act) (s : Tmp) (v : Value) (h : s < a.tmps.size) : (a.put (some s) v).tmps.getD s undef = v := by
  simp [Act.put, Array.getElem?_setIfInBounds, h]
theorem put_other (a : Act) (s t : Tmp) (v : Value) (h : s ≠ t) : (a.put (some s) v).tmps.getD t undef = a.tmps.getD t undef := by
  simp [Act.put, Array.getElem?_setIfInBounds, h]
theorem Ag.refl (n : Nat) (d : Nat → Tmp) (a : Act) : Ag n d a a := ⟨rfl, rfl, fun _ _ => rfl⟩
theorem Ag.put {n : Nat} {d : Nat → Tmp} {a0 a : Act} (h : Ag n d a0 a) {i : Nat} (hi : i < n) (v : Value) : Ag n d a0 (a.put (some (d i)) v) :=
  ⟨(put_size _ _ _).trans h.size, h.defers, fun s hs => (put_other a (d i) s v (hs i hi)).trans (h.old s hs)⟩
def putN (a0 : Act) (d : Nat → Tmp) (v : Nat → Value) : Nat → Act
  | 0 => a0
  | k + 1 => (putN a0 d v k).put (some (d k)) (v k)
theorem putN_size (a0 : Act) (d : Nat → Tmp) (v : Nat → Value) : ∀ k, (putN a0 d v k).tmps.size = a0.tmps.size
  | 0 => rfl
  | k + 1 => (put_size _ _ _).trans (putN_size a0 d v k)
theorem putN_defers (a0 : Act) (d : Nat → Tmp) (v : Nat → Value) : ∀ k, (putN a0 d v k).defers = a0.defers
  | 0 => rfl
  | k + 1 => putN_defers a0 d v k
theorem putN_at {n : Nat} {d : Nat → Tmp} {a0 a : Act} (h : Ag n d a0 a) (hd : ∀ i, i < n → d i < a0.tmps.size) : ∀ k, k ≤ n → ∀ s,
    ((∃ i, i < k ∧ d i = s) → (putN a0 d (fun i => a.tmps.getD (d i) undef) k).tmps.getD s undef = a.tmps.getD s undef) ∧ ((¬ ∃ i, i < k ∧ d i = s) → (putN a0 d (fun i => a.tmps.getD (d i) undef) k).tmps.getD s undef = a0.tmps.getD s undef)
  | 0, _, s => ⟨fun ⟨i, hi, _⟩ => by omega, fun _ => rfl⟩
  | k + 1, hk, s => by
    have ih := putN_at h hd k (by omega) s
    by_cases e : d k = s
    · refine ⟨fun _ => ?_, fun hn => absurd ⟨k, by omega, e⟩ hn⟩
      subst e
      exact put_same _ _ _ (by rw [putN_size]; exact hd k (by omega))
    · refine ⟨fun ⟨i, hi, hs⟩ => ?_, fun hn => ?_⟩
      · refine (put_other _ _ _ _ e).trans (ih.1 ⟨i, ?_, hs⟩)
        by_cases hik : i = k
        · subst hik; exact absurd hs e
        · omega
      · exact (put_other _ _ _ _ e).trans (ih.2 fun ⟨i, hi, hs⟩ => hn ⟨i, by omega, hs⟩)
theorem act_ext {a b : Act} (hs : a.tmps.size = b.tmps.size) (hd : a.defers = b.defers) (h : ∀ s, a.tmps.getD s undef = b.tmps.getD s undef) : a = b := by
  obtain ⟨ta, da⟩ := a; obtain ⟨tb, db⟩ := b
  have e : ta = tb := Array.ext hs fun i h1 h2 => by
    have := h i
    simp only [Array.getD_eq_getD_getElem?, Array.getElem?_eq_getElem h1, Array.getElem?_eq_getElem h2, Option.getD_some] at this
    exact this
  have hd' : da = db := hd
  rw [e, hd']
theorem putN_eq {n : Nat} {d : Nat → Tmp} {a0 a : Act} (h : Ag n d a0 a) (hd : ∀ i, i < n → d i < a0.tmps.size) : putN a0 d (fun i => a.tmps.getD (d i) undef) n = a :=
  act_ext ((putN_size _ _ _ _).trans h.size.symm) ((putN_defers _ _ _ _).trans h.defers.symm) fun s => by
    have := putN_at h hd n (Nat.le_refl _) s
    by_cases e : ∃ i, i < n ∧ d i = s
    · exact this.1 e
    · exact (this.2 e).trans (h.old s fun i hi hs => e ⟨i, hi, hs⟩).symm
/-- How many of the head aren't done. -/
def unl (L : Array Bool) : Nat → Nat
  | 0 => 0
  | k + 1 => unl L k + (if L.getD k true = false then 1 else 0)
theorem unl_far (L : Array Bool) (i : Nat) : ∀ k, k ≤ i → unl (L.setIfInBounds i true) k = unl L k
  | 0, _ => rfl
  | k + 1, h => by
    unfold unl
    rw [unl_far L i k (by omega), getD_set_ne true (by omega)]
theorem unl_set (L : Array Bool) (i : Nat) (hi : L.getD i true = false) : ∀ k, i < k → unl (L.setIfInBounds i true) k + 1 = unl L k
  | 0, h => by omega
  | k + 1, h => by
    unfold unl
    by_cases e : i = k
    · subst e
      rw [unl_far L i i (Nat.le_refl _), if_pos hi, if_neg (by
        have hlt : i < L.size := by
          rcases Nat.lt_or_ge i L.size with h | h
          · exact h
          · rw [Array.getD_eq_getD_getElem?, Array.getElem?_eq_none h] at hi; cases hi
        simp [hlt])]
    · have := unl_set L i hi k (by omega)
      rw [getD_set_ne true e]; omega
theorem unl_zero (L : Array Bool) : ∀ k, unl L k = 0 → ∀ i, i < k → L.getD i true = true
  | 0, _, i, h => by omega
  | k + 1, h, i, hi => by
    unfold unl at h
    by_cases e : i = k
    · subst e
      cases hb : L.getD i true
      · rw [hb] at h; simp at h
      · rfl
    · exact unl_zero L k (by omega) i (by omega)
theorem unl_pos (L : Array Bool) : ∀ k, unl L k ≠ 0 → ∃ i, i < k ∧ L.getD i true = false ∧ ∀ j, j < i → L.getD j true = true
  | 0, h => absurd rfl h
  | k + 1, h => by
    by_cases e : unl L k = 0
    · have : L.getD k true = false := by
        unfold unl at h
        cases hb : L.getD k true
        · rfl
        · rw [hb, e] at h; simp at h
      exact ⟨k, by omega, this, unl_zero L k e⟩
    · obtain ⟨i, hi, h1, h2⟩ := unl_pos L k e
      exact ⟨i, by omega, h1, h2⟩
/-- A pointer's block. -/
def ptrB : Value → Nat
  | .pointer (some a) => a.block
  | _ => 0
/-- The values of the head's layings lie apart. -/
structure Apt (n : Nat) (d : Nat → Tmp) (Nw : Nat → Bool) (L : Array Bool) (a : Act) (w : World) : Prop where
  lt : ∀ i, i < n → L.getD i true = true → Nw i = true → ptrB (a.tmps.getD (d i) undef) < w.heap.size
  ne : ∀ i j, i < n → j < n → L.getD i true = true → L.getD j true = true → i ≠ j → Nw i = true → Nw j = true → ptrB (a.tmps.getD (d i) undef) ≠ ptrB (a.tmps.getD (d j) undef)
/-- An operation's own step: its value is told by F. -/
def stepS (P : Program) (ops : Array Oper) (Q : Exit → Act → World → Prop) (o : Oper) (F : Value → World → Prop) (a : Act) (w : World) : Prop :=
  if Region.wanted o (yielded ops a.tmps) then o.wp P a w (fun a' w' => ∃ v, a' = a.put o.dst v ∧ F v w') Q else F undef w
/-- Each operation of the head waits for earlier ones alone. -/
def fwdR (ops : Array Oper) (n : Nat) : Bool := (List.range n).all fun i => match ops[i]? with | some o => o.after.all fun e => !(Region.binds .any e) || decide (e.on < i) | none => false
def slotsR (ops : Array Oper) (n : Nat) (L0 : Array Bool) : Bool :=
  decide (n < ops.size) && Region.sinkB .any ops n && chainR .any ops n && fwdR ops n && decide (L0 = (Array.range ops.size).map fun i => decide (i < n))
theorem slots_any {Q : Exit → Act → World → Prop} {n g : Nat} {L0 : Array Bool} {w0 : World} {a0 : Act} {d : Nat → Tmp} {R : Nat → Value → World → Prop} {Nw : Nat → Bool}
    (hs : Region.sinkB .any ops n = true) (hc : chainR .any ops n = true) (hf : fwdR ops n = true) (hn : n < ops.size) (hL0 : L0 = (Array.range ops.size).map fun i => decide (i < n))
    (hdst : ∀ i o, i < n → ops[i]? = some o → o.dst = some (d i)) (hd : ∀ i, i < n → d i < a0.tmps.size) (hinj : ∀ i j, i < n → j < n → d i = d j → i = j)
    (hstab : ∀ i v w w', i < n → R i v w → KpN w w' → R i v w')
    (hstep : ∀ i o, i < n → ops[i]? = some o → ∀ a w, KpN w0 w → Ag n d a0 a → (∀ j, j < n → Region.waitsFor .any ops i j = true → R j (a.tmps.getD (d j) undef) w) → stepS P ops Q o (fun v w' => KpN w w' ∧ R i v w' ∧ (Nw i = true → w.heap.size ≤ ptrB v ∧ ptrB v < w'.heap.size)) a w)
    (hend : ∀ (v : Nat → Value) w, KpN w0 w → (∀ i, i < n → R i (v i) w) → (∀ i j, i < n → j < n → i ≠ j → Nw i = true → Nw j = true → ptrB (v i) ≠ ptrB (v j)) → wpAny P .any ops Q g L0 (putN a0 d v n) w) :
    ∀ (m : Nat) (L : Array Bool) (a : Act) (w : World), unl L n = m → HeadInv .any ops n L → KpN w0 w → Ag n d a0 a → (∀ i, i < n → L.getD i true = true → R i (a.tmps.getD (d i) undef) w) → Apt n d Nw L a w → wpAny P .any ops Q (m + g) L a w
  | 0, L, a, w, hm, inv, hK, hA, hR, hN => by
    have hall := unl_zero L n hm
    have e : L = L0 := by
      rw [hL0]
      refine Array.ext (by rw [inv.size]; simp) fun i h1 h2 => ?_
      rw [Array.getElem_map, Array.getElem_range]
      by_cases hi : i < n
      · have := hall i hi
        rw [Array.getD_eq_getD_getElem?, Array.getElem?_eq_getElem h1, Option.getD_some] at this
        rw [this, decide_eq_true hi]
      · have := inv.tail i (by omega) (by rw [← inv.size]; exact h1)
        rw [Array.getD_eq_getD_getElem?, Array.getElem?_eq_getElem h1, Option.getD_some] at this
        rw [this, decide_eq_false hi]
    rw [e, Nat.zero_add]
    have h := hend (fun i => a.tmps.getD (d i) undef) w hK (fun i hi => hR i hi (hall i hi)) (fun i j hi hj => hN.ne i j hi hj (hall i hi) (hall j hj))
    rw [putN_eq hA hd] at h
    exact h
  | m + 1, L, a, w, hm, inv, hK, hA, hR, hN => by
    obtain ⟨i0, hi0, hu0, hmin⟩ := unl_pos L n (by omega)
    have hready : i0 ∈ Region.ready .any ops L := by
      rw [mem_ready]
      have hf0 := List.all_eq_true.1 hf i0 (List.mem_range.2 hi0)
      cases ho : ops[i0]? with
      | none => rw [ho] at hf0; cases hf0
      | some o =>
        rw [ho] at hf0
        refine ⟨hu0, o, rfl, fun e he hb => ?_⟩
        have := Array.all_eq_true'.1 hf0 e he
        rw [hb] at this
        have hlt : e.on < i0 := by simpa using this
        have h2 := hmin e.on hlt
        have hsz : e.on < L.size := by rw [inv.size]; omega
        rw [Array.getD_eq_getD_getElem?, Array.getElem?_eq_getElem hsz, Option.getD_some] at h2 ⊢
        exact h2
    rw [show m + 1 + g = (m + g) + 1 by omega]
    refine ⟨fun h0 => (by rw [h0] at hready; cases hready), fun i hi => ?_⟩
    have hin : i < n := by
      rcases Nat.lt_or_ge i n with h | h
      · exact h
      · exact absurd hi (tail_waitsR hs hc hn inv _ i0 rfl hi0 hu0 i h)
    obtain ⟨hu, o, ho, hall⟩ := mem_ready.1 hi
    have hst := hstep i o hin ho a w hK hA fun j hj hw => by
      obtain ⟨o', ho', e, he, hb, hon⟩ := Region.waitsFor_spec hw
      obtain rfl : o' = o := Option.some.inj (ho'.symm.trans ho)
      have := hall e he hb
      rw [hon] at this
      have hsz : j < L.size := by rw [inv.size]; omega
      rw [Array.getD_eq_getD_getElem?, Array.getElem?_eq_getElem hsz, Option.getD_some] at this
      exact hR j hj (by rw [Array.getD_eq_getD_getElem?, Array.getElem?_eq_getElem hsz, Option.getD_some]; exact this)
    have hed : o.dst = some (d i) := hdst i o hin ho
    have next : ∀ v w', KpN w w' → R i v w' → (Nw i = true → w.heap.size ≤ ptrB v ∧ ptrB v < w'.heap.size) → wpAny P .any ops Q (m + g) (L.setIfInBounds i true) (a.put (some (d i)) v) w' := fun v w' hk hr hnw =>
      have same : (a.put (some (d i)) v).tmps.getD (d i) undef = v := put_same _ _ _ (by rw [hA.size]; exact hd i hin)
      have other : ∀ j, j < n → j ≠ i → (a.put (some (d i)) v).tmps.getD (d j) undef = a.tmps.getD (d j) undef := fun j hj e => put_other _ _ _ _ fun q => e (hinj i j hin hj q).symm
      have lst : ∀ j, j ≠ i → (L.setIfInBounds i true).getD j true = L.getD j true := fun j e => getD_set_ne true (Ne.symm e)
      slots_any hs hc hf hn hL0 hdst hd hinj hstab hstep hend m _ _ w' (by have := unl_set L i hu n hin; omega) (inv.set hi hin) (hK.trans hk) (hA.put hin v) (fun j hj hl => by
        by_cases e : j = i
        · subst e; rw [same]; exact hr
        · rw [other j hj e]; rw [lst j e] at hl
          exact hstab j _ _ _ hj (hR j hj hl) hk)
        ⟨fun j hj hl hn => by
          by_cases e : j = i
          · subst e; rw [same]; exact (hnw hn).2
          · rw [other j hj e]; rw [lst j e] at hl
            exact Nat.lt_of_lt_of_le (hN.lt j hj hl hn) hk.size, fun j k hj hk' hl hl' hne hn hn' => by
          by_cases e : j = i
          · subst e
            rw [same, other k hk' (Ne.symm hne)]; rw [lst k (Ne.symm hne)] at hl'
            have := hN.lt k hk' hl' hn'; have := (hnw hn).1; omega
          · by_cases e2 : k = i
            · subst e2
              rw [same, other j hj e]; rw [lst j e] at hl
              have := hN.lt j hj hl hn; have := (hnw hn').1; omega
            · rw [other j hj e, other k hk' e2]; rw [lst j e] at hl; rw [lst k e2] at hl'
              exact hN.ne j k hj hk' hl hl' hne hn hn'⟩
    unfold wpOp
    rw [ho]
    dsimp only
    unfold stepS at hst
    split
    · next hw =>
      rw [if_pos hw] at hst
      refine .inl (Oper.wp_mono (fun a' w' h => ?_) hst)
      obtain ⟨v, rfl, hk, hr, hn'⟩ := h
      rw [hed]
      exact next v w' hk hr hn'
    · next hw =>
      rw [if_neg hw] at hst
      rw [hed]
      exact next undef w hst.1 hst.2.1 hst.2.2
theorem wp_region_slots {id : Nat} {Q : Exit → Act → World → Prop} {a0 : Act} {w : World} (n g : Nat) (L0 : Array Bool) (d : Nat → Tmp) (R : Nat → Value → World → Prop) (Nw : Nat → Bool) (hm : P.follows .mixedOrders = true) (hB : slotsR ops n L0 = true) (hg : n + g = ops.size)
    (hdst : ∀ i o, i < n → ops[i]? = some o → o.dst = some (d i)) (hd : ∀ i, i < n → d i < a0.tmps.size) (hinj : ∀ i j, i < n → j < n → d i = d j → i = j)
    (hstab : ∀ i v w w', i < n → R i v w → KpN w w' → R i v w')
    (hstep : ∀ i o, i < n → ops[i]? = some o → ∀ a w', KpN w w' → Ag n d a0 a → (∀ j, j < n → Region.waitsFor .any ops i j = true → R j (a.tmps.getD (d j) undef) w') → stepS P ops Q o (fun v w'' => KpN w' w'' ∧ R i v w'' ∧ (Nw i = true → w'.heap.size ≤ ptrB v ∧ ptrB v < w''.heap.size)) a w')
    (hend : ∀ (v : Nat → Value) w', KpN w w' → (∀ i, i < n → R i (v i) w') → (∀ i j, i < n → j < n → i ≠ j → Nw i = true → Nw j = true → ptrB (v i) ≠ ptrB (v j)) → wpAny P .any ops Q g L0 (putN a0 d v n) w') : (Code.region id ops true).wp P Q a0 w := by
  simp only [slotsR, Bool.and_eq_true, decide_eq_true_eq] at hB
  obtain ⟨⟨⟨⟨hn, hs⟩, hc⟩, hf⟩, hL0⟩ := hB
  refine wp_region_any hm ?_
  have inv0 : HeadInv .any ops n (Array.replicate ops.size false) :=
    ⟨by simp, fun j oj _ hl => (by rw [getD_replicate_false] at hl; cases hl), fun t _ ht => getD_in (by simpa using ht) (getD_replicate_false _ _)⟩
  have hu : ∀ k, k ≤ ops.size → unl (Array.replicate ops.size false) k = k := by
    intro k
    induction k with
    | zero => intro _; rfl
    | succ k ih =>
      intro hk
      unfold unl
      rw [ih (by omega), if_pos (by rw [Array.getD_eq_getD_getElem?, Array.getElem?_replicate, if_pos (by omega)]; rfl)]
  have hd0 : KpN w w.drew := (Kp.refl _ _).drew
  have h := slots_any (P := P) (Q := Q) (g := g) (L0 := L0) (w0 := w) (a0 := a0) (Nw := Nw) hs hc hf hn hL0 hdst hd hinj hstab hstep hend n _ a0 w.drew (hu n (by omega)) inv0 hd0 (Ag.refl _ _ _) (fun i hi hl => by
    rw [Array.getD_eq_getD_getElem?, Array.getElem?_replicate, if_pos (by omega)] at hl; cases hl) ⟨fun i hi hl => (by
    rw [Array.getD_eq_getD_getElem?, Array.getElem?_replicate, if_pos (by omega)] at hl; cases hl), fun i j hi _ hl => (by
    rw [Array.getD_eq_getD_getElem?, Array.getElem?_replicate, if_pos (by omega)] at hl; cases hl)⟩
  rw [hg] at h
  exact h
/-! the steps -/
variable {Q : Exit → Act → World → Prop} {o : Oper} {F : Value → World → Prop} {a : Act} {w : World}
theorem sS_no (h : Region.wanted o (yielded ops a.tmps) = false) (hF : F undef w) : stepS P ops Q o F a w := by
  unfold stepS; rw [if_neg (by rw [h]; decide)]; exact hF
theorem sS_in (h : Region.wanted o (yielded ops a.tmps) = true) (hF : o.wp P a w (fun a' w' => ∃ v, a' = a.put o.dst v ∧ F v w') Q) : stepS P ops Q o F a w := by
  unfold stepS; rw [if_pos h]; exact hF
theorem sS_ld (hg : o.guard = none) {ty : TypeId} {x : Operand} (ho : o.op = .load ty x) (g : Nat) (hx : a.eval x = .pointer (some ⟨g, 0, none⟩)) (t : TypeId) (cs : Array Value) (d : TypeDesc)
    (hb : w.heap[g]? = some (.cells cs t (0, 0))) (hu : P.underlying ty = some d) (hd : (match d with | .struct _ | .array _ _ => true | _ => false) = true) (hi : (P.info? ty).map (·.size) = some cs.size)
    (hF : F (.agg cs) w) : stepS P ops Q o F a w := sS_in (wanted_none hg _) (wp_ld ho g hx t cs d hb hu hd hi ⟨_, rfl, hF⟩)
theorem sS_mv (hg : o.guard = none) {x : Operand} (ho : o.op = .move x) (hF : F (a.eval x) w) : stepS P ops Q o F a w := sS_in (wanted_none hg _) (wp_mv ho ⟨_, rfl, hF⟩)
theorem sS_ca (hg : o.guard = none) {f : FuncId} {fn : Func} {as_ : Array Operand} {ts : Array TypeId} (hop : o.op = .call { callee := .value (.func f), args := as_, argTypes := ts })
    (hf : P.funcs[f]? = some fn) (hname : (fn.name == "runtime.NumGoroutine") = false) (hb : fn.body.isSome = true) (args : Array Value) (hargs : as_.map a.eval = args)
    (h : Calls P f args w fun e w' => ∃ v, e = .returned v ∧ F v w') : stepS P ops Q o F a w :=
  sS_in (wanted_none hg _) (wp_ca hop hf hname hb args hargs (h.mono fun e w' h => by obtain ⟨v, he, hF⟩ := h; exact ⟨v, he, v, rfl, hF⟩))
theorem sS_al (hg : o.guard = none) {t : TypeId} (ho : o.op = .alloc t) (cs : Array Value) (hz : (zeroValue t).run P w = .ok (.agg cs) w)
    (h : ∀ g, g = w.heap.size → ∀ w1, w1.heap[g]? = some (.cells cs t (0, 0)) → KpN w w1 → F (.pointer (some ⟨g, 0, none⟩)) w1) : stepS P ops Q o F a w := by
  refine sS_in (wanted_none hg _) ?_
  have hrun : (execOp a.eval o).run P w = .ok (.value (.pointer (some ⟨w.heap.size, 0, none⟩))) (w.alloc (.cells cs t (0, 0))) := by
    unfold execOp
    simp only [ho, Instr.alloc, Sem.run_bind, hz, Result.andThen_ok]
    rfl
  unfold Oper.wp
  rw [hrun]
  exact ⟨_, rfl, h _ rfl _ (by simpa using heap_alloc_new w _) ((Kp.refl _ _).alloc _)⟩
theorem wp_al {K : Act → World → Prop} {t : TypeId} (ho : o.op = .alloc t) (cs : Array Value) (hz : ∀ W, (zeroValue t).run P W = .ok (.agg cs) W)
    (h : ∀ g, g = w.heap.size → ∀ w1, w1.heap[g]? = some (.cells cs t (0, 0)) → KpN w w1 → K (a.put o.dst (.pointer (some ⟨g, 0, none⟩))) w1) : o.wp P a w K Q := by
  have hrun : (execOp a.eval o).run P w = .ok (.value (.pointer (some ⟨w.heap.size, 0, none⟩))) (w.alloc (.cells cs t (0, 0))) := by
    unfold execOp
    simp only [ho, Instr.alloc, Sem.run_bind, hz, Result.andThen_ok]
    rfl
  unfold Oper.wp
  rw [hrun]
  exact h _ rfl _ (by simpa using heap_alloc_new w _) ((Kp.refl _ _).alloc _)
theorem yf_ld {S : World → Prop} (hg : o.guard = none) {ty : TypeId} {x : Operand} (ho : o.op = .load ty x) (g : Nat) (hx : a.eval x = .pointer (some ⟨g, 0, none⟩)) (t : TypeId) (cs : Array Value) (d : TypeDesc)
    (hb : ∀ w, S w → w.heap[g]? = some (.cells cs t (0, 0))) (hu : P.underlying ty = some d) (hd : (match d with | .struct _ | .array _ _ => true | _ => false) = true) (hi : (P.info? ty).map (·.size) = some cs.size) :
    YieldsIf P ops S o (.agg cs) a := by
  refine .inl ⟨wanted_none hg _, fun w hw => ?_⟩
  unfold execOp
  simp only [ho, hx, Instr.loadAt, Instr.sureAddr, Sem.run_bind, Sem.run_pure, Result.andThen_ok, run_loadVar_row w g t ty cs (0, 0) d (hb w hw) hu hd hi]
theorem anyH_1 {md : Region.Mode} {S : World → Prop} {i fuel : Nat} {listed : Array Bool} (hr : Region.ready md ops listed = [i]) (ho : ops[i]? = some o) (hg : o.guard = none)
    (h : o.wp P a w (fun a' w' => S w' ∧ wpAnyH P md ops Q S fuel (listed.setIfInBounds i true) a' w') Q) : wpAnyH P md ops Q S (fuel + 1) listed a w :=
  wpAnyH_all hr (by simp) fun k hk => by
    have : k = i := by simpa using hk
    subst this; exact op_in ho hg h
theorem anyH_2 {md : Region.Mode} {S : World → Prop} {i j fuel : Nat} {o' : Oper} {listed : Array Bool} (hr : Region.ready md ops listed = [i, j]) (ho : ops[i]? = some o) (hg : o.guard = none) (ho' : ops[j]? = some o') (hg' : o'.guard = none)
    (h : o.wp P a w (fun a' w' => S w' ∧ wpAnyH P md ops Q S fuel (listed.setIfInBounds i true) a' w') Q) (h' : o'.wp P a w (fun a' w' => S w' ∧ wpAnyH P md ops Q S fuel (listed.setIfInBounds j true) a' w') Q) : wpAnyH P md ops Q S (fuel + 1) listed a w :=
  wpAnyH_all hr (by simp) fun k hk => by
    have : k = i ∨ k = j := by simpa using hk
    rcases this with rfl | rfl
    · exact op_in ho hg h
    · exact op_in ho' hg' h'
end
/-- 'x, y := v, v' of a whole row. -/
theorem pair_out {P : Program} {id : Nat} {Q : Exit → Act → World → Prop} {a : Act} {w : World} {o0 o1 o2 o3 o4 o5 : Oper} (hm : P.follows .mixedOrders = true)
    (n0 : o0.guard = none) (n1 : o1.guard = none) (n2 : o2.guard = none) (n3 : o3.guard = none) (n4 : o4.guard = none) (n5 : o5.guard = none)
    (hsel : Region.noSelect #[o0, o1, o2, o3, o4, o5] = true)
    (f0 : Region.free .any #[o0, o1, o2, o3, o4, o5] #[false, false, false, false, false, false] 0 = true) (f1 : Region.free .any #[o0, o1, o2, o3, o4, o5] #[true, false, false, false, false, false] 1 = true)
    (c0 : (Region.ready .any #[o0, o1, o2, o3, o4, o5] #[false, false, false, false, false, false]).contains 0 = true) (c1 : (Region.ready .any #[o0, o1, o2, o3, o4, o5] #[true, false, false, false, false, false]).contains 1 = true)
    (r0 : Region.ready .any #[o0, o1, o2, o3, o4, o5] #[true, true, false, false, false, false] = [2, 3])
    (r1 : Region.ready .any #[o0, o1, o2, o3, o4, o5] #[true, true, true, false, false, false] = [3])
    (r2 : Region.ready .any #[o0, o1, o2, o3, o4, o5] #[true, true, false, true, false, false] = [2])
    (r3 : Region.ready .any #[o0, o1, o2, o3, o4, o5] #[true, true, true, true, false, false] = [4])
    (r4 : Region.ready .any #[o0, o1, o2, o3, o4, o5] #[true, true, true, true, true, false] = [5])
    (r5 : Region.ready .any #[o0, o1, o2, o3, o4, o5] #[true, true, true, true, true, true] = [])
    {T : TypeId} {x0 x1 x4 y4 x5 y5 : Operand} {D : TypeDesc} (e0 : o0.op = .load T x0) (e1 : o1.op = .load T x1) (e2 : o2.op = .alloc T) (e3 : o3.op = .alloc T) (e4 : o4.op = .store T x4 y4) (e5 : o5.op = .store T x5 y5) (d4 : o4.dst = none) (d5 : o5.dst = none)
    (u0 : P.underlying T = some D) (q0 : (match D with | .struct _ | .array _ _ => true | _ => false) = true)
    (g : Nat) (cs zs : Array Value) (hz : ∀ W, (zeroValue T).run P W = .ok (.agg zs) W) (i0 : (P.info? T).map (·.size) = some cs.size) (s0 : zs.size = cs.size) (v0 : cs.all (·.oneCell') = true)
    (b0 : w.heap[g]? = some (.cells cs T (0, 0))) (hQ : (∀ c a w, Q (.panic c) (a.put o0.dst (.agg cs)) w → Q (.panic c) a w) ∧ (∀ c a w, Q (.panic c) (a.put o1.dst (.agg cs)) w → Q (.panic c) a w))
    (p0 : a.eval x0 = .pointer (some ⟨g, 0, none⟩)) (p1 : (a.put o0.dst (.agg cs)).eval x1 = .pointer (some ⟨g, 0, none⟩))
    (comm : ∀ u v, (((a.put o0.dst (.agg cs)).put o1.dst (.agg cs)).put o3.dst v).put o2.dst u = (((a.put o0.dst (.agg cs)).put o1.dst (.agg cs)).put o2.dst u).put o3.dst v)
    (p4 : ∀ u v, ((((a.put o0.dst (.agg cs)).put o1.dst (.agg cs)).put o2.dst u).put o3.dst v).eval x4 = u) (p5 : ∀ u v, ((((a.put o0.dst (.agg cs)).put o1.dst (.agg cs)).put o2.dst u).put o3.dst v).eval y4 = .agg cs)
    (p6 : ∀ u v, ((((a.put o0.dst (.agg cs)).put o1.dst (.agg cs)).put o2.dst u).put o3.dst v).eval x5 = v) (p7 : ∀ u v, ((((a.put o0.dst (.agg cs)).put o1.dst (.agg cs)).put o2.dst u).put o3.dst v).eval y5 = .agg cs)
    (k : ∀ ga gb w2, ga ≠ gb → w.heap.size ≤ ga → w.heap.size ≤ gb → w2.heap[ga]? = some (.cells cs T (0, 0)) → w2.heap[gb]? = some (.cells cs T (0, 0)) → KpN w w2 →
      Q .normal ((((a.put o0.dst (.agg cs)).put o1.dst (.agg cs)).put o2.dst (.pointer (some ⟨ga, 0, none⟩))).put o3.dst (.pointer (some ⟨gb, 0, none⟩))) w2) :
    (Code.region id #[o0, o1, o2, o3, o4, o5] true).wp P Q a w := by
  refine wp_region_held (S := fun W => W.heap[g]? = some (.cells cs T (0, 0))) hm ?_
  show wpAnyH P .any #[o0, o1, o2, o3, o4, o5] Q _ 6 #[false, false, false, false, false, false] a w.drew
  have kd : KpN w w.drew := (Kp.refl _ _).drew
  · have fin : ∀ ga gb W, ga ≠ gb → w.heap.size ≤ ga → w.heap.size ≤ gb → W.heap[ga]? = some (.cells zs T (0, 0)) → W.heap[gb]? = some (.cells zs T (0, 0)) → KpN w W →
        wpAnyH P .any #[o0, o1, o2, o3, o4, o5] Q (fun W => W.heap[g]? = some (.cells cs T (0, 0))) 2 #[true, true, true, true, false, false] ((((a.put o0.dst (.agg cs)).put o1.dst (.agg cs)).put o2.dst (.pointer (some ⟨ga, 0, none⟩))).put o3.dst (.pointer (some ⟨gb, 0, none⟩))) W := by
      intro ga gb W hne hga hgb ha hb hK
      have hg := blk_lt b0
      have bW := (hK.block g hg (fun h => h)).trans b0
      refine anyH_1 r3 rfl n4 (wp_st e4 d4 ga cs zs T (p4 _ _) (p5 _ _) ha i0 s0 v0 fun w1 t1 k1 => ⟨(k1.block g (blk_lt bW) (by omega)).trans bW, ?_⟩)
      have b1 := (k1.block g (blk_lt bW) (by omega)).trans bW
      refine anyH_1 r4 rfl n5 (wp_st e5 d5 gb cs zs T (p6 _ _) (p7 _ _) ((k1.block gb (blk_lt hb) (Ne.symm hne)).trans hb) i0 s0 v0 fun w2 t2 k2 => ⟨(k2.block g (blk_lt b1) (by omega)).trans b1, ?_⟩)
      refine wpAnyH_done r5 ?_ _
      exact k ga gb w2 hne hga hgb ((k2.block ga (blk_lt t1) hne).trans t1) t2 ((hK.then k1 fun i hi (e : i = ga) => by omega).then k2 fun i hi (e : i = gb) => by omega)
    refine wpAnyH_take (i := 0) (v := .agg cs) rfl hsel f0 c0 hQ.1 (yf_ld n0 e0 g p0 T cs D (fun w h => h) u0 q0 i0) b0 ?_
    refine wpAnyH_take (i := 1) (v := .agg cs) rfl hsel f1 c1 hQ.2 (yf_ld n1 e1 g p1 T cs D (fun w h => h) u0 q0 i0) b0 ?_
    have hg := blk_lt b0
    refine anyH_2 r0 rfl n2 rfl n3 (wp_al e2 zs hz fun g2 hg2 w1 h1 k1 => ⟨(k1.block g hg (fun h => h)).trans b0, ?_⟩) (wp_al e3 zs hz fun g3 hg3 w1 h1 k1 => ⟨(k1.block g hg (fun h => h)).trans b0, ?_⟩)
    · have b1 := (k1.block g hg (fun h => h)).trans b0
      refine anyH_1 r1 rfl n3 (wp_al e3 zs hz fun g3 hg3 w2 h2 k2 => ⟨(k2.block g (blk_lt b1) (fun h => h)).trans b1, ?_⟩)
      have l1 := blk_lt h1
      have s1 := k1.size
      have s2 : w.drew.heap.size = w.heap.size := rfl
      exact fin g2 g3 w2 (by omega) (by omega) (by omega) ((k2.block g2 l1 (fun h => h)).trans h1) h2 ((kd.trans k1).trans k2)
    · have b1 := (k1.block g hg (fun h => h)).trans b0
      refine anyH_1 r2 rfl n2 (wp_al e2 zs hz fun g2 hg2 w2 h2 k2 => ⟨(k2.block g (blk_lt b1) (fun h => h)).trans b1, ?_⟩)
      have l1 := blk_lt h1
      have s1 := k1.size
      have s2 : w.drew.heap.size = w.heap.size := rfl
      show wpAnyH P .any #[o0, o1, o2, o3, o4, o5] Q (fun W => W.heap[g]? = some (.cells cs T (0, 0))) 2 #[true, true, true, true, false, false] ((((a.put o0.dst (.agg cs)).put o1.dst (.agg cs)).put o3.dst (.pointer (some ⟨g3, 0, none⟩))).put o2.dst (.pointer (some ⟨g2, 0, none⟩))) w2
      rw [comm]
      exact fin g2 g3 w2 (by omega) (by omega) (by omega) h2 ((k2.block g3 l1 (fun h => h)).trans h1) ((kd.trans k1).trans k2)
end Go.Proofs.Ytnknfepbekaobaa.H
/- Regions that draw their order, where each value of the head is known. -/
namespace Go.Proofs.Ytnknfepbekaobaa.H
open Go.RowKit Go.Proofs.YtnknfepbekaobaaW.PrintWords Go.Proofs.YtnknfepbekaobaaW.PrintLast Go.Proofs.Ytnknfepbekaobaa.PAl
set_option linter.unusedVariables false
set_option linter.unusedSimpArgs false
section
variable {P : Program} {ops : Array Oper} {Q : Exit → Act → World → Prop} {o : Oper} {F : Value → World → Prop} {a : Act} {w : World}
theorem sS_bin (hg : o.guard = none) {b : BinOp} {t t2 : TypeId} {x y : Operand} (ho : o.op = .binOp b t x y t2) (vx vy v : Value) (hx : a.eval x = vx) (hy : a.eval y = vy)
    (hrun : (do eqGuard b t x y vx vy; binOp b t vx vy : Sem Value).run P w = .ok v w) (hF : F v w) : stepS P ops Q o F a w := by
  refine sS_in (wanted_none hg _) ?_
  have hr : (execOp a.eval o).run P w = .ok (.value v) w := by
    unfold execOp
    simp only [ho, hx, hy]
    rw [Sem.run_bind, hrun]; rfl
  unfold Oper.wp
  rw [hr]
  exact ⟨v, rfl, hF⟩
theorem sS_load (hg : o.guard = none) {ty : TypeId} {x : Operand} (ho : o.op = .load ty x) (vx v : Value) (hx : a.eval x = vx) (hrun : (Instr.loadAt ty vx).run P w = .ok v w) (hF : F v w) : stepS P ops Q o F a w := by
  refine sS_in (wanted_none hg _) ?_
  have hr : (execOp a.eval o).run P w = .ok (.value v) w := by
    unfold execOp
    simp only [ho, hx, Sem.run_bind, hrun, Result.andThen_ok]
    rfl
  unfold Oper.wp
  rw [hr]
  exact ⟨v, rfl, hF⟩
theorem sS_fa (hg : o.guard = none) {s : TypeId} {x : Operand} {f : Nat} (ho : o.op = .fieldAddr s x f) (vx v : Value) (hx : a.eval x = vx) (hrun : (Instr.fieldAt s vx f).run P w = .ok v w) (hF : F v w) : stepS P ops Q o F a w := by
  refine sS_in (wanted_none hg _) ?_
  have hr : (execOp a.eval o).run P w = .ok (.value v) w := by
    unfold execOp
    simp only [ho, hx, Sem.run_bind, hrun, Result.andThen_ok]
    rfl
  unfold Oper.wp
  rw [hr]
  exact ⟨v, rfl, hF⟩
theorem sS_run (hg : o.guard = none) (v : Value) (w1 : World) (hrun : (execOp a.eval o).run P w = .ok (.value v) w1) (hF : F v w1) : stepS P ops Q o F a w := by
  refine sS_in (wanted_none hg _) ?_
  unfold Oper.wp
  rw [hrun]
  exact ⟨v, rfl, hF⟩
theorem sS_as (hg : o.guard = none) {x : Operand} (ho : o.op = .assign x) (hF : F (a.eval x) w) : stepS P ops Q o F a w := sS_in (wanted_none hg _) (wp_as ho ⟨_, rfl, hF⟩)
theorem sS_ex (hg : o.guard = none) {x : Operand} {j : Nat} (ho : o.op = .extract x j) (vs : Array Value) (v : Value) (hx : a.eval x = .tuple vs) (hj : vs[j]? = some v) (hF : F v w) : stepS P ops Q o F a w :=
  sS_in (wanted_none hg _) (wp_ex ho vs v hx hj ⟨_, rfl, hF⟩)
theorem putN_congr (a0 : Act) (d : Nat → Tmp) (u v : Nat → Value) : ∀ n, (∀ i, i < n → u i = v i) → putN a0 d u n = putN a0 d v n
  | 0, _ => rfl
  | n + 1, h => by unfold putN; rw [putN_congr a0 d u v n (fun i hi => h i (by omega)), h n (by omega)]
/-- The same where each value is known. -/
theorem wp_region_vals {id : Nat} {a0 : Act} (n g : Nat) (L0 : Array Bool) (d : Nat → Tmp) (V : Nat → Value) (hm : P.follows .mixedOrders = true) (hB : slotsR ops n L0 = true) (hg : n + g = ops.size)
    (hdst : ∀ i o, i < n → ops[i]? = some o → o.dst = some (d i)) (hd : ∀ i, i < n → d i < a0.tmps.size) (hinj : ∀ i j, i < n → j < n → d i = d j → i = j)
    (hstep : ∀ i o, i < n → ops[i]? = some o → ∀ a w', KpN w w' → Ag n d a0 a → (∀ j, j < n → Region.waitsFor .any ops i j = true → a.tmps.getD (d j) undef = V j) → stepS P ops Q o (fun v w'' => KpN w' w'' ∧ v = V i) a w')
    (hend : ∀ w', KpN w w' → wpAny P .any ops Q g L0 (putN a0 d V n) w') : (Code.region id ops true).wp P Q a0 w := by
  refine wp_region_slots n g L0 d (fun i v _ => v = V i) (fun _ => false) hm hB hg hdst hd hinj (fun _ _ _ _ _ h _ => h) ?_ ?_
  · intro i o hi ho a w' hk hA hdep
    have h := hstep i o hi ho a w' hk hA hdep
    unfold stepS at h ⊢
    split
    · next hw => rw [if_pos hw] at h; exact Oper.wp_mono (fun a' w'' h => by obtain ⟨v, e, h1, h2⟩ := h; exact ⟨v, e, h1, h2, fun h => by cases h⟩) h
    · next hw => rw [if_neg hw] at h; exact ⟨h.1, h.2, fun h => by cases h⟩
  · intro v w' hk hv _
    rw [putN_congr a0 d v V n hv]
    exact hend w' hk
end
end Go.Proofs.Ytnknfepbekaobaa.H
/- Regions that draw their order and hold guarded operations: whether one is wanted, and its step. -/
namespace Go.Proofs.Ytnknfepbekaobaa.H
open Go.RowKit Go.Proofs.YtnknfepbekaobaaW.PrintWords Go.Proofs.YtnknfepbekaobaaW.PrintLast Go.Proofs.Ytnknfepbekaobaa.PAl
set_option linter.unusedVariables false
set_option linter.unusedSimpArgs false
section
variable {P : Program} {ops : Array Oper} {Q : Exit → Act → World → Prop} {o : Oper} {F : Value → World → Prop} {a : Act} {w : World}
def boolOf : Value → Option Bool
  | .bool b => some b
  | _ => none
theorem yielded_of {j : Nat} {d : Tmp} {v : Value} (hd : (ops[j]?).bind (·.dst) = some d) (hv : a.tmps.getD d undef = v) : yielded ops a.tmps j = boolOf v := by
  unfold yielded
  rw [hd]
  simp only [Option.bind_some]
  rw [Array.getD_eq_getD_getElem?] at hv
  cases h : a.tmps[d]? with
  | none => rw [h] at hv; simp only [Option.getD_none] at hv; subst hv; rfl
  | some u => rw [h] at hv; simp only [Option.getD_some] at hv; subst hv; cases u <;> rfl
theorem wanted_y {j : Nat} {b : Bool} {d : Tmp} (hg : o.guard = some (j, b)) (hd : (ops[j]?).bind (·.dst) = some d) (hv : a.tmps.getD d undef = .bool b) : Region.wanted o (yielded ops a.tmps) = true := by
  unfold Region.wanted
  rw [hg]
  show (yielded ops a.tmps j == some b) = true
  rw [yielded_of hd hv]
  exact beq_self_eq_true _
theorem wanted_n {j : Nat} {b : Bool} {d : Tmp} {v : Value} (hg : o.guard = some (j, b)) (hd : (ops[j]?).bind (·.dst) = some d) (hv : a.tmps.getD d undef = v) (hn : boolOf v ≠ some b) : Region.wanted o (yielded ops a.tmps) = false := by
  unfold Region.wanted
  rw [hg]
  show (yielded ops a.tmps j == some b) = false
  rw [yielded_of hd hv]
  exact beq_eq_false_iff_ne.2 hn
variable (hw : Region.wanted o (yielded ops a.tmps) = true)
include hw
theorem gS_run (v : Value) (w1 : World) (hrun : (execOp a.eval o).run P w = .ok (.value v) w1) (hF : F v w1) : stepS P ops Q o F a w := by
  refine sS_in hw ?_
  unfold Oper.wp
  rw [hrun]
  exact ⟨v, rfl, hF⟩
theorem gS_ld {ty : TypeId} {x : Operand} (ho : o.op = .load ty x) (g : Nat) (hx : a.eval x = .pointer (some ⟨g, 0, none⟩)) (t : TypeId) (cs : Array Value) (d : TypeDesc)
    (hb : w.heap[g]? = some (.cells cs t (0, 0))) (hu : P.underlying ty = some d) (hd : (match d with | .struct _ | .array _ _ => true | _ => false) = true) (hi : (P.info? ty).map (·.size) = some cs.size)
    (hF : F (.agg cs) w) : stepS P ops Q o F a w := sS_in hw (wp_ld ho g hx t cs d hb hu hd hi ⟨_, rfl, hF⟩)
theorem gS_mv {x : Operand} (ho : o.op = .move x) (v : Value) (hx : a.eval x = v) (hF : F v w) : stepS P ops Q o F a w := sS_in hw (wp_mv ho ⟨_, rfl, by rw [hx]; exact hF⟩)
theorem gS_ca {f : FuncId} {fn : Func} {as_ : Array Operand} {ts : Array TypeId} (hop : o.op = .call { callee := .value (.func f), args := as_, argTypes := ts })
    (hf : P.funcs[f]? = some fn) (hname : (fn.name == "runtime.NumGoroutine") = false) (hb : fn.body.isSome = true) (args : Array Value) (hargs : as_.map a.eval = args)
    (h : Calls P f args w fun e w' => ∃ v, e = .returned v ∧ F v w') : stepS P ops Q o F a w :=
  sS_in hw (wp_ca hop hf hname hb args hargs (h.mono fun e w' h => by obtain ⟨v, he, hF⟩ := h; exact ⟨v, he, v, rfl, hF⟩))
theorem gS_bin {b : BinOp} {t t2 : TypeId} {x y : Operand} (ho : o.op = .binOp b t x y t2) (vx vy v : Value) (hx : a.eval x = vx) (hy : a.eval y = vy)
    (hrun : (do eqGuard b t x y vx vy; binOp b t vx vy : Sem Value).run P w = .ok v w) (hF : F v w) : stepS P ops Q o F a w := by
  refine gS_run hw v w ?_ hF
  unfold execOp
  simp only [ho, hx, hy]
  rw [Sem.run_bind, hrun]; rfl
theorem gS_un {u : UnOp} {t : TypeId} {x : Operand} (ho : o.op = .unOp u t x) (vx v : Value) (hx : a.eval x = vx) (hrun : (Op.unary u vx).run P w = .ok v w) (hF : F v w) : stepS P ops Q o F a w := by
  refine gS_run hw v w ?_ hF
  unfold execOp
  simp only [ho, hx]
  rw [Sem.run_bind, hrun]; rfl
theorem gS_pick {c x y : Operand} (ho : o.op = .pick c x y) (b : Bool) (v : Value) (hc : a.eval c = .bool b) (hv : (if b = true then a.eval x else a.eval y) = v) (hF : F v w) : stepS P ops Q o F a w := by
  refine gS_run hw v w ?_ hF
  unfold execOp
  simp only [ho, hc]
  rw [← hv]
  cases b <;> rfl
theorem gS_load {ty : TypeId} {x : Operand} (ho : o.op = .load ty x) (vx v : Value) (hx : a.eval x = vx) (hrun : (Instr.loadAt ty vx).run P w = .ok v w) (hF : F v w) : stepS P ops Q o F a w := by
  refine gS_run hw v w ?_ hF
  unfold execOp
  simp only [ho, hx]
  rw [Sem.run_bind, hrun]; rfl
theorem gS_fa {s : TypeId} {x : Operand} {f : Nat} (ho : o.op = .fieldAddr s x f) (vx v : Value) (hx : a.eval x = vx) (hrun : (Instr.fieldAt s vx f).run P w = .ok v w) (hF : F v w) : stepS P ops Q o F a w := by
  refine gS_run hw v w ?_ hF
  unfold execOp
  simp only [ho, hx]
  rw [Sem.run_bind, hrun]; rfl
theorem gS_ia {s : TypeId} {x y : Operand} (ho : o.op = .indexAddr s x y) (vx vy v : Value) (hx : a.eval x = vx) (hy : a.eval y = vy) (hrun : (Instr.indexAt s vx vy).run P w = .ok v w) (hF : F v w) : stepS P ops Q o F a w := by
  refine gS_run hw v w ?_ hF
  unfold execOp
  simp only [ho, hx, hy]
  rw [Sem.run_bind, hrun]; rfl
theorem gS_bd {t : TypeId} {parts : Array (Nat × Operand)} (ho : o.op = .build t parts) (ps : Array (Nat × Value)) (v : Value) (hps : (parts.map fun (i, x) => (i, a.eval x)) = ps) (hrun : (Instr.build t ps).run P w = .ok v w) (hF : F v w) : stepS P ops Q o F a w := by
  refine gS_run hw v w ?_ hF
  unfold execOp
  simp only [ho, hps]
  rw [Sem.run_bind, hrun]; rfl
theorem gS_nc {x : Operand} (ho : o.op = .nilCheck x) (p : Addr) (hx : a.eval x = .pointer (some p)) (hF : F (.pointer (some p)) w) : stepS P ops Q o F a w := by
  refine gS_run hw _ w ?_ hF
  unfold execOp
  simp only [ho, hx]
  rfl
theorem gS_al {t : TypeId} (ho : o.op = .alloc t) (cs : Array Value) (hz : (zeroValue t).run P w = .ok (.agg cs) w)
    (h : ∀ g, g = w.heap.size → ∀ w1, w1.heap[g]? = some (.cells cs t (0, 0)) → KpN w w1 → F (.pointer (some ⟨g, 0, none⟩)) w1) : stepS P ops Q o F a w := by
  refine sS_in hw ?_
  have hrun : (execOp a.eval o).run P w = .ok (.value (.pointer (some ⟨w.heap.size, 0, none⟩))) (w.alloc (.cells cs t (0, 0))) := by
    unfold execOp
    simp only [ho, Instr.alloc, Sem.run_bind, hz, Result.andThen_ok]
    rfl
  unfold Oper.wp
  rw [hrun]
  exact ⟨_, rfl, h _ rfl _ (by simpa using heap_alloc_new w _) ((Kp.refl _ _).alloc _)⟩
theorem gS_as {x : Operand} (ho : o.op = .assign x) (v : Value) (hx : a.eval x = v) (hF : F v w) : stepS P ops Q o F a w := sS_in hw (wp_as ho ⟨_, rfl, by rw [hx]; exact hF⟩)
end
end Go.Proofs.Ytnknfepbekaobaa.H
/- TrapAsks, walked by hand: who may wait and fence; the causes of calls and faults. -/
namespace Go.Proofs.Ytnknfepbekaobaa.H
open Go.RowKit Go.Proofs.YtnknfepbekaobaaW.PrintWords Go.Proofs.YtnknfepbekaobaaW.PrintLast Go.Proofs.Ytnknfepbekaobaa.PAl Go.Proofs.Ytnknfepbekaobaa.Pure Go.Proofs.Ytnknfepbekaobaa.Vw
set_option linter.unusedVariables false
set_option linter.unusedSimpArgs false
open Go.Sort
section
variable {P : Program} {ops : Array Oper} {C : World → Prop} {Q : Act → Prop} {a : Act} {o : Oper} {rest : List Oper}
theorem wpQuiet_mv (hgd : Region.wanted o (yielded ops a.tmps) = true) {x : Operand} (ho : o.op = .move x) {v : Value} (hx : a.eval x = v) (h : wpQuiet P ops C Q rest (a.put o.dst v)) : wpQuiet P ops C Q (o :: rest) a := by
  show if _ then _ else _
  rw [if_pos hgd]
  refine ⟨v, fun w hC => ?_, h⟩
  unfold Oper.quietAt execOp
  simp only [ho, hx]
  exact ⟨rfl, rfl⟩
theorem wpQuiet_no (hgd : Region.wanted o (yielded ops a.tmps) = false) (h : wpQuiet P ops C Q rest (a.put o.dst undef)) : wpQuiet P ops C Q (o :: rest) a := by
  show if _ then _ else _
  rw [if_neg (by rw [hgd]; decide)]
  exact h
theorem wpQuiet_mv8 {o1 o2 o3 o4 o5 o6 o7 o8 : Oper} (hgd : Region.wanted o (yielded ops a.tmps) = true) {x : Operand} (ho : o.op = .move x) {v : Value} (hx : a.eval x = v)
    (n1 : Region.wanted o1 (yielded ops (a.put o.dst v).tmps) = false)
    (n2 : Region.wanted o2 (yielded ops ((a.put o.dst v).put o1.dst undef).tmps) = false)
    (n3 : Region.wanted o3 (yielded ops (((a.put o.dst v).put o1.dst undef).put o2.dst undef).tmps) = false)
    (n4 : Region.wanted o4 (yielded ops ((((a.put o.dst v).put o1.dst undef).put o2.dst undef).put o3.dst undef).tmps) = false)
    (n5 : Region.wanted o5 (yielded ops (((((a.put o.dst v).put o1.dst undef).put o2.dst undef).put o3.dst undef).put o4.dst undef).tmps) = false)
    (n6 : Region.wanted o6 (yielded ops ((((((a.put o.dst v).put o1.dst undef).put o2.dst undef).put o3.dst undef).put o4.dst undef).put o5.dst undef).tmps) = false)
    (n7 : Region.wanted o7 (yielded ops (((((((a.put o.dst v).put o1.dst undef).put o2.dst undef).put o3.dst undef).put o4.dst undef).put o5.dst undef).put o6.dst undef).tmps) = false)
    (n8 : Region.wanted o8 (yielded ops ((((((((a.put o.dst v).put o1.dst undef).put o2.dst undef).put o3.dst undef).put o4.dst undef).put o5.dst undef).put o6.dst undef).put o7.dst undef).tmps) = false)
    (h : wpQuiet P ops C Q rest (((((((((a.put o.dst v).put o1.dst undef).put o2.dst undef).put o3.dst undef).put o4.dst undef).put o5.dst undef).put o6.dst undef).put o7.dst undef).put o8.dst undef)) : wpQuiet P ops C Q (o :: o1 :: o2 :: o3 :: o4 :: o5 :: o6 :: o7 :: o8 :: rest) a :=
  wpQuiet_mv hgd ho hx (wpQuiet_no n1 (wpQuiet_no n2 (wpQuiet_no n3 (wpQuiet_no n4 (wpQuiet_no n5 (wpQuiet_no n6 (wpQuiet_no n7 (wpQuiet_no n8 h))))))))
end
theorem fault_eq1 (k : Int) : faultW k true = rfaultW k 1 := by
  unfold faultW rfaultW kKind
  by_cases h : k = 0
  · rw [if_pos h, if_pos h]; rfl
  by_cases h1 : k = 1
  · rw [if_neg h, if_pos h1, if_neg h, if_pos h1]; rfl
  · rw [if_neg h, if_neg h1, if_neg h, if_neg h1]; rfl
theorem fault_eq0 (k : Int) : faultW k false = rfaultW k 0 := by
  unfold faultW rfaultW kKind
  by_cases h : k = 0
  · rw [if_pos h, if_pos h]; rfl
  by_cases h1 : k = 1
  · rw [if_neg h, if_pos h1, if_neg h, if_pos h1]; rfl
  · rw [if_neg h, if_neg h1, if_neg h, if_neg h1]; rfl
theorem crooked_eq (k : Int) : crookedW k = rfaultW k 2 := by
  unfold crookedW rfaultW kKind
  by_cases h : k = 0
  · rw [if_pos h, if_pos h]; rfl
  by_cases h1 : k = 1
  · rw [if_neg h, if_pos h1, if_neg h, if_pos h1]; rfl
  · rw [if_neg h, if_neg h1, if_neg h, if_neg h1]; rfl

def dA (i : Nat) : Tmp := 24 + min i 51
theorem dA_le (i : Nat) : @LE.le Nat _ (dA i) 75 := by show (24 + min i 51 : Nat) ≤ 75; omega
theorem dA_inj (i j : Nat) (hi : i < 52) (hj : j < 52) (h : dA i = dA j) : i = j := by have h : (24 + min i 51 : Nat) = 24 + min j 51 := h; omega
theorem dA_ne (s : Nat) (h : s < 24) : ∀ i, i < 52 → dA i ≠ s := fun i _ => by show ¬ ((24 + min i 51 : Nat) = s); have h : (s : Nat) < 24 := h; omega
def vAp (p qb : Nat) (kd fv1 fv2 : Int) (i : Nat) : Value := match i with
  | 0 => .bool true | 1 => .pointer (some ⟨p, 0, none⟩) | 2 => .int .i64 3 | 3 => .bool true | 4 => .bool true | 5 => undef | 6 => undef | 7 => undef | 8 => .bool true | 9 => .bool true | 10 => .bool true | 11 => .bool true | 12 => .pointer (some ⟨p, 0, none⟩) | 13 => .int .i64 3 | 14 => .bool true | 15 => .bool true | 16 => undef | 17 => undef | 18 => undef | 19 => undef | 20 => undef | 21 => undef | 22 => undef | 23 => undef | 24 => .bool true | 25 => .bool true | 26 => .bool true | 27 => .bool true | 28 => .int .i64 11 | 29 => .slice (some ⟨qb, 0, none⟩) 4 4 | 30 => .pointer (some ⟨p, 0, none⟩) | 31 => .int .i64 3 | 32 => .pointer (some ⟨qb, 3, none⟩) | 33 => .int .i64 11 | 34 => .bool true | 35 => .bool true | 36 => .bool true | 37 => .int .i64 kd | 38 => .bool true | 39 => .int .i64 fv1 | 40 => .int .i64 kd | 41 => .int .i64 1 | 42 => .int .i64 fv1 | 43 => .bool true | 44 => .bool true | 45 => .bool true | 46 => .int .i64 kd | 47 => .int .i64 fv2 | 48 => .int .i64 kd | 49 => .int .i64 fv2 | 50 => .bool true | _ => .bool true
def vAq (p qb : Nat) (kd fv1 fv2 : Int) (i : Nat) : Value := match i with
  | 0 => .bool true | 1 => .pointer (some ⟨p, 0, none⟩) | 2 => .int .i64 3 | 3 => .bool true | 4 => .bool true | 5 => undef | 6 => undef | 7 => undef | 8 => .bool true | 9 => .bool true | 10 => .bool true | 11 => .bool true | 12 => .pointer (some ⟨p, 0, none⟩) | 13 => .int .i64 3 | 14 => .bool true | 15 => .bool true | 16 => undef | 17 => undef | 18 => undef | 19 => undef | 20 => undef | 21 => undef | 22 => undef | 23 => undef | 24 => .bool true | 25 => .bool true | 26 => .bool true | 27 => .bool true | 28 => .int .i64 11 | 29 => .slice (some ⟨qb, 0, none⟩) 4 4 | 30 => .pointer (some ⟨p, 0, none⟩) | 31 => .int .i64 3 | 32 => .pointer (some ⟨qb, 3, none⟩) | 33 => .int .i64 11 | 34 => .bool true | 35 => .bool true | 36 => .bool true | 37 => .int .i64 kd | 38 => .bool false | 39 => .int .i64 fv1 | 40 => .int .i64 kd | 41 => .int .i64 0 | 42 => .int .i64 fv1 | 43 => .bool true | 44 => .bool true | 45 => .bool true | 46 => .int .i64 kd | 47 => .int .i64 fv2 | 48 => .int .i64 kd | 49 => .int .i64 fv2 | 50 => .bool true | _ => .bool true
theorem fa34 (y : Nat) (w : World) : (Instr.fieldAt 34 (.pointer (some ⟨y, 0, none⟩)) 0).run Try.prog w = .ok (.pointer (some ⟨y, 0, none⟩)) w := by kernel_rfl
theorem ld3 (p : Addr) (v : Value) (w : World) (h : w.cell? p = some v) : (Instr.loadAt 3 (.pointer (some p))).run Try.prog w = .ok v w := by
  go_simp
theorem ia57 (qb : Nat) (w : World) : (Instr.indexAt 57 (.slice (some ⟨qb, 0, none⟩) 4 4) (.int .i64 3)).run Try.prog w = .ok (.pointer (some ⟨qb, 3, none⟩)) w := by kernel_rfl
theorem eq_3 (w : World) (x y : Operand) : (do eqGuard .eql 3 x y (.int .i64 3) (.int .i64 3); binOp .eql 3 (.int .i64 3) (.int .i64 3) : Sem Value).run Try.prog w = .ok (.bool true) w := by kernel_rfl
theorem eq_b (w : World) (x y : Operand) : (do eqGuard .eql 4 x y (.bool true) (.bool true); binOp .eql 4 (.bool true) (.bool true) : Sem Value).run Try.prog w = .ok (.bool true) w := by kernel_rfl
theorem eq_k0 (k : Int) (w : World) (x y : Operand) : (do eqGuard .eql 3 x y (.int .i64 k) (.int .i64 k); binOp .eql 3 (.int .i64 k) (.int .i64 k) : Sem Value).run Try.prog w = .ok (.bool (k == k)) w := by kernel_rfl
theorem eq_k (k : Int) (w : World) (x y : Operand) : (do eqGuard .eql 3 x y (.int .i64 k) (.int .i64 k); binOp .eql 3 (.int .i64 k) (.int .i64 k) : Sem Value).run Try.prog w = .ok (.bool true) w := by rw [eq_k0, beq_self_eq_true]
theorem wp_as9 {P : Program} {Q : Exit → Act → World → Prop} {o : Oper} {a : Act} {w : World} {K : Act → World → Prop} {x : Operand} (ho : o.op = .assign x) (N : Tmp) (hd : o.dst = some N) (v : Value) (hx : a.eval x = v) (hs : N < a.tmps.size) (h : ∀ ac : Act, ac.defers = a.defers → ac.tmps.getD N undef = v → K ac w) : o.wp P a w K Q := wp_as ho (by rw [hx, hd]; exact h _ rfl (put_same _ _ _ hs))
theorem nolt52 (j : Nat) (h : j + 52 < 52) : False := by omega
theorem putN_get (a0 : Act) (d : Nat → Tmp) (v : Nat → Value) {n : Nat} (hinj : ∀ i j, i < n → j < n → d i = d j → i = j) : ∀ k, k ≤ n → ∀ i, i < k → d i < a0.tmps.size → (putN a0 d v k).tmps.getD (d i) undef = v i
  | 0, _, i, h, _ => by omega
  | k + 1, hk, i, h, hs => by
    unfold putN
    by_cases e : i = k
    · subst e; exact put_same _ _ _ (by rw [putN_size]; exact hs)
    · rw [put_other _ _ _ _ fun q => e (hinj i k (by omega) (by omega) q.symm)]
      exact putN_get a0 d v hinj k (by omega) i (by omega) hs
/-- wp_region_vals, its end told by what the row then holds, not by the row's own term. -/
theorem wp_region_vals2 {P : Program} {ops : Array Oper} {Q : Exit → Act → World → Prop} {w : World} {id : Nat} {a0 : Act} (n g : Nat) (L0 : Array Bool) (d : Nat → Tmp) (V : Nat → Value) (hm : P.follows .mixedOrders = true) (hB : slotsR ops n L0 = true) (hg : n + g = ops.size)
    (hdst : ∀ i o, i < n → ops[i]? = some o → o.dst = some (d i)) (hd : ∀ i, i < n → d i < a0.tmps.size) (hinj : ∀ i j, i < n → j < n → d i = d j → i = j)
    (hstep : ∀ i o, i < n → ops[i]? = some o → ∀ a w', KpN w w' → Ag n d a0 a → (∀ j, j < n → Region.waitsFor .any ops i j = true → a.tmps.getD (d j) undef = V j) → stepS P ops Q o (fun v w'' => KpN w' w'' ∧ v = V i) a w')
    (hend : ∀ w', KpN w w' → ∀ a2 : Act, a2.defers = a0.defers → a2.tmps.size = a0.tmps.size → (∀ i, i < n → a2.tmps.getD (d i) undef = V i) → wpAny P .any ops Q g L0 a2 w') : (Code.region id ops true).wp P Q a0 w :=
  wp_region_vals n g L0 d V hm hB hg hdst hd hinj hstep fun w' hk => hend w' hk _ (putN_defers _ _ _ _) (putN_size _ _ _ _) fun i hi => putN_get a0 d V hinj n (Nat.le_refl _) i hi (hd i hi)
set_option maxHeartbeats 8000000 in
set_option maxRecDepth 100000 in
theorem task3p_yes (m : Int) (A : Option Addr) (c : Nat) (l : Nat) (xs : List WR) (kd : Int) (w : World) (hC : Kd.C k68 w A xs.length xs) (hx : wrOk xs) (hl : U l) (hb : bgOk m xs.length) (hm0 : ∀ S : VS, bgF m xs l = S → S.m = 3) :
    Calls Try.prog 8 #[.agg (startC m A xs.length c (l : Int)), .int .i64 kd, .bool true] w fun e w' => e = .returned (.bool true) ∧ Below w.heap.size w w' := by
  have Hb := Aside0.mk hb
  have hRel := Rel.bg hx m l
  have hF : (bgF m xs l).ok := bgF_ok hx hl m
  have hR : (bgR m xs l).ok := bgR_ok hx hl m
  obtain ⟨S, hS⟩ : ∃ S, bgF m xs l = S := ⟨_, rfl⟩
  obtain ⟨R, hRR⟩ : ∃ R, bgR m xs l = R := ⟨_, rfl⟩
  have hmS : S.m = m := by rw [← hS]; rfl
  rw [hS] at hF hRel
  rw [hRR] at hR hRel
  have by_ := fun w hC => begun_yes m A c l xs w Hb.out hC hx hl
  rw [hS, hRR] at by_
  have By := Aside0.mk by_
  have HmS := Aside0.mk hmS
  have hS0 := hS
  have hRR0 := hRR
  clear by_ hS hRR hb hmS
  have hm := hm0 S hS0
  have hmR : R.m = 3 := hRel.m ▸ hm
  have e1 : S.r 1 = R.r 1 := hRel.r1
  have J21 : Aside0 (∀ W, Calls Try.prog 26 #[.agg R.cells, .int .i64 21] W fun e w' => e = .returned (.bool (bitW (S.r 1) 21)) ∧ KpN W w') := ⟨fun W => by rw [e1]; exact is_r R 21 W hR⟩
  have J20 : Aside0 (∀ W, Calls Try.prog 26 #[.agg R.cells, .int .i64 20] W fun e w' => e = .returned (.bool (bitW (S.r 1) 20)) ∧ KpN W w') := ⟨fun W => by rw [e1]; exact is_r R 20 W hR⟩
  obtain ⟨b21, h21⟩ : ∃ b, bitW (S.r 1) 21 = b := ⟨_, rfl⟩
  obtain ⟨b20, h20⟩ : ∃ b, bitW (S.r 1) 20 = b := ⟨_, rfl⟩
  have MW : Aside0 (∀ (g : Nat) W, St FT W g S → Calls Try.prog 25 #[.pointer (some ⟨g, 0, none⟩)] W fun e w' => e = .returned (.bool (true)) ∧ KpN W w') := ⟨fun g W h => by
    have := wait_c g S W h hF; rw [hm, h21] at this; exact this.mono fun _ _ q => ⟨q.1, by obtain ⟨k, hk⟩ := q.2; rw [hk]; exact (Kp.refl _ _).drewN _⟩⟩
  have MF : Aside0 (∀ (g : Nat) W, St FT W g S → Calls Try.prog 27 #[.pointer (some ⟨g, 0, none⟩)] W fun e w' => e = .returned (.bool (true)) ∧ KpN W w') := ⟨fun g W h => by
    have := fence_c g S W h hF; rw [hm, h20] at this; exact this.mono fun _ _ q => ⟨q.1, by obtain ⟨k, hk⟩ := q.2; rw [hk]; exact (Kp.refl _ _).drewN _⟩⟩
  have CL : Aside0 (∀ (g : Nat) W, St FT W g S → Calls Try.prog 28 #[.pointer (some ⟨g, 0, none⟩)] W fun e w' => e = .returned (.int .i64 11) ∧ KpN W w') := ⟨fun g W h => by
    have := call_c g S W h; rw [hm] at this; exact this.mono fun _ _ q => ⟨q.1, q.2 ▸ Kp.refl _ _⟩⟩
  have FA : Aside0 (∀ W, Calls Try.prog 29 #[.int .i64 kd, .bool true] W fun e w' => e = .returned (.int .i64 (rfaultW kd 1)) ∧ KpN W w') := ⟨fun W => by
    rw [← fault_eq1]; exact (fault_c kd true W).mono fun _ _ q => ⟨q.1, q.2 ▸ Kp.refl _ _⟩⟩
  have FR : Aside0 (∀ W, Calls Try.prog 30 #[.int .i64 kd, .int .i64 1] W fun e w' => e = .returned (.int .i64 (rfaultW kd 1)) ∧ KpN W w') := ⟨fun W => fault_r1 kd W⟩
  have CR : Aside0 (∀ W, Calls Try.prog 31 #[.int .i64 kd] W fun e w' => e = .returned (.int .i64 (rfaultW kd 2)) ∧ KpN W w') := ⟨fun W => by
    rw [← crooked_eq]; exact (crooked_c kd W).mono fun _ _ q => ⟨q.1, q.2 ▸ Kp.refl _ _⟩⟩
  have F2 : Aside0 (∀ W, Calls Try.prog 30 #[.int .i64 kd, .int .i64 2] W fun e w' => e = .returned (.int .i64 (rfaultW kd 2)) ∧ KpN W w') := ⟨fun W => fault_r2 kd W⟩
  rw [h21] at J21
  rw [h20] at J20
  generalize rfaultW kd 2 = fv2 at CR F2
  generalize rfaultW kd 1 = fv1 at FA FR
  have HmR := Aside0.mk hmR
  clear hm hmR hm0 hS0 hRR0 hRel e1 h21 h20
  go_enter Try.func8, Try.ntmps8
  go_wp2_with (first
    | ((with_reducible refine gate_dst (N := 3) rfl ?_); refine bx_ev rfl rfl (N := 3) rfl (startC m A xs.length c (l : Int)) rfl ?_; intro g hg_g w1 hb_g hk_g; have Hg_g := Aside0.mk hg_g; clear hg_g)
    | (go_at_call 9; refine (awake9_c _).mono ?_; rintro e w2 ⟨rfl, hk2⟩; have hG2 := (Bk.mk hb_g).kp hk2 (fun h => h); have hC2 : Kd.C k68 w2 A xs.length xs := Kd.C_below hC ((hk_g.trans hk2).below (fun _ _ h => h.elim) (Nat.le_refl _)))
    | ((with_reducible refine gate_dst (N := 15) rfl ?_); refine wpList_load_row rfl 25 _ rfl g rfl _ (startC m A xs.length c (l : Int)) (0, 0) _ (hG2.blk) Try.underlying25 rfl infoS ?_)
    | (go_at_call 10; refine ((By.out _ hC2)).mono ?_; rintro e w3 ⟨rfl, hk3⟩)
    | ((with_reducible refine gate_dst (N := 7) rfl ?_); refine al_ev rfl rfl (N := 7) rfl _ (zeroF _) ?_; intro f hg_f w4 hb_f hk_f; have Hg_f := Aside0.mk hg_f; clear hg_f)
    | ((with_reducible refine gate_dst (N := 8) rfl ?_); refine al_ev rfl rfl (N := 8) rfl _ (zeroR _) ?_; intro p hg_p w5 hb_p hk_p; have Hg_p := Aside0.mk hg_p; clear hg_p)
    | (((with_reducible refine gate_store (t := 31) (p := 7) rfl ?_); refine st_ev rfl rfl rfl f (S.cells) _ _ rfl rfl (((Bk.mk hb_f).kp hk_p (fun h => h)).blk) infoF rfl (VS.one _) ?_; intro w6 hs_w6 ks_w6); have hpf : p ≠ f := (by have := Hg_p.out; have := blk_lt hb_f; omega); have hP6 := (Bk.mk hb_p).kp ks_w6 hpf)
    | (((with_reducible refine gate_store (t := 34) (p := 8) rfl ?_); refine st_ev rfl rfl rfl p (R.cells) _ _ rfl rfl (hP6.blk) infoR rfl (VS.one _) ?_; intro w7 hs_w7 ks_w7); have hI : St FT w7 f S := (St.mk hs_w6).kp ks_w7 (fun e : f = p => hpf e.symm); have hP : St RT w7 p R := St.mk hs_w7; have hfw : w.heap.size ≤ f := (by have := Hg_f.out; have := ((hk_g.trans hk2).trans hk3).size; omega); have hpw : w.heap.size ≤ p := (by have := Hg_p.out; have := (((hk_g.trans hk2).trans hk3).trans hk_f).size; omega); have K7 : KpN w w7 := ((((((hk_g.trans hk2).trans hk3).trans hk_f).trans hk_p).then ks_w6 fun i hi (e : i = f) => by omega).then ks_w7 fun i hi (e : i = p) => by omega); clear hb_g hk_g Hg_g hk2 hG2 hC2 hk3 hb_f hk_f Hg_f hb_p hk_p Hg_p hs_w6 ks_w6 hP6 hs_w7 ks_w7))
  have hnew := heap_alloc_new w7 (.cells #[.int .i64 8, .int .i64 9, .int .i64 0, .int .i64 11] 3)
  have hq := hI.lt
  have hp_ := hP.lt
  have hI8 : St FT (w7.alloc (.cells #[.int .i64 8, .int .i64 9, .int .i64 0, .int .i64 11] 3)) f S := hI.alloc _
  have hP8 : St RT (w7.alloc (.cells #[.int .i64 8, .int .i64 9, .int .i64 0, .int .i64 11] 3)) p R := hP.alloc _
  have K8 : KpN w (w7.alloc (.cells #[.int .i64 8, .int .i64 9, .int .i64 0, .int .i64 11] 3)) := K7.alloc _
  have hL8 : Bk (w7.alloc (.cells #[.int .i64 8, .int .i64 9, .int .i64 0, .int .i64 11] 3)) w7.heap.size #[.int .i64 8, .int .i64 9, .int .i64 0, .int .i64 11] 3 := ⟨hnew⟩
  generalize w7.alloc (.cells #[.int .i64 8, .int .i64 9, .int .i64 0, .int .i64 11] 3) = w8 at hI8 hP8 K8 hL8 ⊢
  generalize w7.heap.size = qb at hL8 ⊢
  clear hnew hq hp_ hI hP K7
  have cp : ∀ W, KpN w8 W → W.cell? ⟨p, 0, none⟩ = some (.int .i64 3) := fun W hW => by rw [← HmR.out]; exact (hP8.kp hW (fun h => h)).c0
  have cq : ∀ W, KpN w8 W → W.cell? ⟨qb, 3, none⟩ = some (.int .i64 11) := fun W hW => (hL8.kp hW (fun h => h)).c 3
  have CP := Aside0.mk cp
  have CQ := Aside0.mk cq
  clear cp cq
  refine wp_region_vals2 52 1 #[true, true, true, true, true, true, true, true, true, true, true, true, true, true, true, true, true, true, true, true, true, true, true, true, true, true, true, true, true, true, true, true, true, true, true, true, true, true, true, true, true, true, true, true, true, true, true, true, true, true, true, true, false] dA (vAp p qb kd fv1 fv2) (by kernel_rfl) (by kernel_rfl) rfl ?_ ?_ ?_ ?_ ?_
  · intro i o hi ho
    rcases i with _ | _ | _ | _ | _ | _ | _ | _ | _ | _ | _ | _ | _ | _ | _ | _ | _ | _ | _ | _ | _ | _ | _ | _ | _ | _ | _ | _ | _ | _ | _ | _ | _ | _ | _ | _ | _ | _ | _ | _ | _ | _ | _ | _ | _ | _ | _ | _ | _ | _ | _ | _ | i
    all_goals first | (cases ho; rfl) | omega
  · intro i hi
    refine Nat.lt_of_le_of_lt (dA_le i) ?_
    show (75 : Nat) < 76; decide
  · exact dA_inj
  · intro i o hi ho a' W hW hA hdep
    rcases i with _ | _ | _ | _ | _ | _ | _ | _ | _ | _ | _ | _ | _ | _ | _ | _ | _ | _ | _ | _ | _ | _ | _ | _ | _ | _ | _ | _ | _ | _ | _ | _ | _ | _ | _ | _ | _ | _ | _ | _ | _ | _ | _ | _ | _ | _ | _ | _ | _ | _ | _ | _ | i
    · cases ho
      have h0 : a'.eval (.tmp 7) = .pointer (some ⟨f, 0, none⟩) := hA.old 7 (dA_ne 7 (by decide))
      refine gS_ca (wanted_none rfl _) rfl Try.func25 (by kernel_rfl) rfl #[.pointer (some ⟨f, 0, none⟩)] (by simp only [List.map_toArray, List.map_cons, List.map_nil]; rw [h0]) ?_
      exact (MW.out f W (hI8.kp hW (fun h => h))).mono fun e w' h => ⟨_, h.1, h.2, rfl⟩
    · cases ho
      have h0 : a'.tmps.getD 8 undef = .pointer (some ⟨p, 0, none⟩) := hA.old 8 (dA_ne 8 (by decide))
      exact gS_fa (wanted_none rfl _) rfl _ _ h0 (fa34 p W) ⟨Kp.refl _ _, rfl⟩
    · cases ho
      have h0 : a'.tmps.getD 25 undef = .pointer (some ⟨p, 0, none⟩) := hdep 1 (by decide) (by kernel_rfl)
      exact gS_load (wanted_none rfl _) rfl _ _ h0 (ld3 _ _ W (CP.out W hW)) ⟨Kp.refl _ _, rfl⟩
    · cases ho
      have h0 : a'.tmps.getD 26 undef = .int .i64 3 := hdep 2 (by decide) (by kernel_rfl)
      exact gS_bin (wanted_none rfl _) rfl _ _ _ h0 rfl (eq_3 W _ _) ⟨Kp.refl _ _, rfl⟩
    · cases ho
      have h0 : a'.tmps.getD 27 undef = .bool true := hdep 3 (by decide) (by kernel_rfl)
      exact gS_mv (wanted_none rfl _) rfl _ h0 ⟨Kp.refl _ _, rfl⟩
    · cases ho
      have hg : a'.tmps.getD 28 undef = .bool true := hdep 4 (by decide) (by kernel_rfl)
      exact sS_no (wanted_n rfl rfl hg (by decide)) ⟨Kp.refl _ _, rfl⟩
    · cases ho
      have hg : a'.tmps.getD 28 undef = .bool true := hdep 4 (by decide) (by kernel_rfl)
      exact sS_no (wanted_n rfl rfl hg (by decide)) ⟨Kp.refl _ _, rfl⟩
    · cases ho
      have hg : a'.tmps.getD 28 undef = .bool true := hdep 4 (by decide) (by kernel_rfl)
      exact sS_no (wanted_n rfl rfl hg (by decide)) ⟨Kp.refl _ _, rfl⟩
    · cases ho
      have h0 : a'.tmps.getD 28 undef = .bool true := hdep 4 (by decide) (by kernel_rfl)
      exact gS_pick (wanted_none rfl _) rfl true _ h0 (rfl) ⟨Kp.refl _ _, rfl⟩
    · cases ho
      have h0 : a'.tmps.getD 24 undef = .bool true := hdep 0 (by decide) (by kernel_rfl)
      have h1 : a'.tmps.getD 32 undef = .bool true := hdep 8 (by decide) (by kernel_rfl)
      exact gS_bin (wanted_none rfl _) rfl _ _ _ h0 h1 (eq_b W _ _) ⟨Kp.refl _ _, rfl⟩
    · cases ho
      have h0 : a'.tmps.getD 33 undef = .bool true := hdep 9 (by decide) (by kernel_rfl)
      exact gS_mv (wanted_none rfl _) rfl _ h0 ⟨Kp.refl _ _, rfl⟩
    · cases ho
      have hg : a'.tmps.getD 34 undef = .bool true := hdep 10 (by decide) (by kernel_rfl)
      have h0 : a'.eval (.tmp 7) = .pointer (some ⟨f, 0, none⟩) := hA.old 7 (dA_ne 7 (by decide))
      refine gS_ca (wanted_y rfl rfl hg) rfl Try.func27 (by kernel_rfl) rfl #[.pointer (some ⟨f, 0, none⟩)] (by simp only [List.map_toArray, List.map_cons, List.map_nil]; rw [h0]) ?_
      exact (MF.out f W (hI8.kp hW (fun h => h))).mono fun e w' h => ⟨_, h.1, h.2, rfl⟩
    · cases ho
      have hg : a'.tmps.getD 34 undef = .bool true := hdep 10 (by decide) (by kernel_rfl)
      have h0 : a'.tmps.getD 8 undef = .pointer (some ⟨p, 0, none⟩) := hA.old 8 (dA_ne 8 (by decide))
      exact gS_fa (wanted_y rfl rfl hg) rfl _ _ h0 (fa34 p W) ⟨Kp.refl _ _, rfl⟩
    · cases ho
      have hg : a'.tmps.getD 34 undef = .bool true := hdep 10 (by decide) (by kernel_rfl)
      have h0 : a'.tmps.getD 36 undef = .pointer (some ⟨p, 0, none⟩) := hdep 12 (by decide) (by kernel_rfl)
      exact gS_load (wanted_y rfl rfl hg) rfl _ _ h0 (ld3 _ _ W (CP.out W hW)) ⟨Kp.refl _ _, rfl⟩
    · cases ho
      have hg : a'.tmps.getD 34 undef = .bool true := hdep 10 (by decide) (by kernel_rfl)
      have h0 : a'.tmps.getD 37 undef = .int .i64 3 := hdep 13 (by decide) (by kernel_rfl)
      exact gS_bin (wanted_y rfl rfl hg) rfl _ _ _ h0 rfl (eq_3 W _ _) ⟨Kp.refl _ _, rfl⟩
    · cases ho
      have hg : a'.tmps.getD 34 undef = .bool true := hdep 10 (by decide) (by kernel_rfl)
      have h0 : a'.tmps.getD 38 undef = .bool true := hdep 14 (by decide) (by kernel_rfl)
      exact gS_mv (wanted_y rfl rfl hg) rfl _ h0 ⟨Kp.refl _ _, rfl⟩
    · cases ho
      have hg : a'.tmps.getD 39 undef = .bool true := hdep 15 (by decide) (by kernel_rfl)
      exact sS_no (wanted_n rfl rfl hg (by decide)) ⟨Kp.refl _ _, rfl⟩
    · cases ho
      have hg : a'.tmps.getD 39 undef = .bool true := hdep 15 (by decide) (by kernel_rfl)
      exact sS_no (wanted_n rfl rfl hg (by decide)) ⟨Kp.refl _ _, rfl⟩
    · cases ho
      have hg : a'.tmps.getD 39 undef = .bool true := hdep 15 (by decide) (by kernel_rfl)
      exact sS_no (wanted_n rfl rfl hg (by decide)) ⟨Kp.refl _ _, rfl⟩
    · cases ho
      have hg : a'.tmps.getD 39 undef = .bool true := hdep 15 (by decide) (by kernel_rfl)
      exact sS_no (wanted_n rfl rfl hg (by decide)) ⟨Kp.refl _ _, rfl⟩
    · cases ho
      have hg : a'.tmps.getD 43 undef = undef := hdep 19 (by decide) (by kernel_rfl)
      exact sS_no (wanted_n rfl rfl hg (by intro h; cases h)) ⟨Kp.refl _ _, rfl⟩
    · cases ho
      have hg : a'.tmps.getD 43 undef = undef := hdep 19 (by decide) (by kernel_rfl)
      exact sS_no (wanted_n rfl rfl hg (by intro h; cases h)) ⟨Kp.refl _ _, rfl⟩
    · cases ho
      have hg : a'.tmps.getD 43 undef = undef := hdep 19 (by decide) (by kernel_rfl)
      exact sS_no (wanted_n rfl rfl hg (by intro h; cases h)) ⟨Kp.refl _ _, rfl⟩
    · cases ho
      have hg : a'.tmps.getD 39 undef = .bool true := hdep 15 (by decide) (by kernel_rfl)
      exact sS_no (wanted_n rfl rfl hg (by decide)) ⟨Kp.refl _ _, rfl⟩
    · cases ho
      have hg : a'.tmps.getD 34 undef = .bool true := hdep 10 (by decide) (by kernel_rfl)
      have h0 : a'.tmps.getD 39 undef = .bool true := hdep 15 (by decide) (by kernel_rfl)
      exact gS_pick (wanted_y rfl rfl hg) rfl true _ h0 (rfl) ⟨Kp.refl _ _, rfl⟩
    · cases ho
      have hg : a'.tmps.getD 34 undef = .bool true := hdep 10 (by decide) (by kernel_rfl)
      have h0 : a'.tmps.getD 35 undef = .bool true := hdep 11 (by decide) (by kernel_rfl)
      have h1 : a'.tmps.getD 48 undef = .bool true := hdep 24 (by decide) (by kernel_rfl)
      exact gS_bin (wanted_y rfl rfl hg) rfl _ _ _ h0 h1 (eq_b W _ _) ⟨Kp.refl _ _, rfl⟩
    · cases ho
      have h0 : a'.tmps.getD 34 undef = .bool true := hdep 10 (by decide) (by kernel_rfl)
      have h1 : a'.tmps.getD 49 undef = .bool true := hdep 25 (by decide) (by kernel_rfl)
      exact gS_pick (wanted_none rfl _) rfl true _ h0 (h1) ⟨Kp.refl _ _, rfl⟩
    · cases ho
      have h0 : a'.tmps.getD 50 undef = .bool true := hdep 26 (by decide) (by kernel_rfl)
      exact gS_mv (wanted_none rfl _) rfl _ h0 ⟨Kp.refl _ _, rfl⟩
    · cases ho
      have hg : a'.tmps.getD 51 undef = .bool true := hdep 27 (by decide) (by kernel_rfl)
      have h0 : a'.eval (.tmp 7) = .pointer (some ⟨f, 0, none⟩) := hA.old 7 (dA_ne 7 (by decide))
      refine gS_ca (wanted_y rfl rfl hg) rfl Try.func28 (by kernel_rfl) rfl #[.pointer (some ⟨f, 0, none⟩)] (by simp only [List.map_toArray, List.map_cons, List.map_nil]; rw [h0]) ?_
      exact (CL.out f W (hI8.kp hW (fun h => h))).mono fun e w' h => ⟨_, h.1, h.2, rfl⟩
    · cases ho
      have hg : a'.tmps.getD 51 undef = .bool true := hdep 27 (by decide) (by kernel_rfl)
      have h0 : a'.tmps.getD 11 undef = .slice (some ⟨qb, 0, none⟩) 4 4 := hA.old 11 (dA_ne 11 (by decide))
      exact gS_mv (wanted_y rfl rfl hg) rfl _ h0 ⟨Kp.refl _ _, rfl⟩
    · cases ho
      have hg : a'.tmps.getD 51 undef = .bool true := hdep 27 (by decide) (by kernel_rfl)
      have h0 : a'.tmps.getD 8 undef = .pointer (some ⟨p, 0, none⟩) := hA.old 8 (dA_ne 8 (by decide))
      exact gS_fa (wanted_y rfl rfl hg) rfl _ _ h0 (fa34 p W) ⟨Kp.refl _ _, rfl⟩
    · cases ho
      have hg : a'.tmps.getD 51 undef = .bool true := hdep 27 (by decide) (by kernel_rfl)
      have h0 : a'.tmps.getD 54 undef = .pointer (some ⟨p, 0, none⟩) := hdep 30 (by decide) (by kernel_rfl)
      exact gS_load (wanted_y rfl rfl hg) rfl _ _ h0 (ld3 _ _ W (CP.out W hW)) ⟨Kp.refl _ _, rfl⟩
    · cases ho
      have hg : a'.tmps.getD 51 undef = .bool true := hdep 27 (by decide) (by kernel_rfl)
      have h0 : a'.tmps.getD 53 undef = .slice (some ⟨qb, 0, none⟩) 4 4 := hdep 29 (by decide) (by kernel_rfl)
      have h1 : a'.tmps.getD 55 undef = .int .i64 3 := hdep 31 (by decide) (by kernel_rfl)
      exact gS_ia (wanted_y rfl rfl hg) rfl _ _ _ h0 h1 (ia57 qb W) ⟨Kp.refl _ _, rfl⟩
    · cases ho
      have hg : a'.tmps.getD 51 undef = .bool true := hdep 27 (by decide) (by kernel_rfl)
      have h0 : a'.tmps.getD 56 undef = .pointer (some ⟨qb, 3, none⟩) := hdep 32 (by decide) (by kernel_rfl)
      exact gS_load (wanted_y rfl rfl hg) rfl _ _ h0 (ld3 _ _ W (CQ.out W hW)) ⟨Kp.refl _ _, rfl⟩
    · cases ho
      have hg : a'.tmps.getD 51 undef = .bool true := hdep 27 (by decide) (by kernel_rfl)
      have h0 : a'.tmps.getD 52 undef = .int .i64 11 := hdep 28 (by decide) (by kernel_rfl)
      have h1 : a'.tmps.getD 57 undef = .int .i64 11 := hdep 33 (by decide) (by kernel_rfl)
      exact gS_bin (wanted_y rfl rfl hg) rfl _ _ _ h0 h1 (eq_k 11 W _ _) ⟨Kp.refl _ _, rfl⟩
    · cases ho
      have h0 : a'.tmps.getD 51 undef = .bool true := hdep 27 (by decide) (by kernel_rfl)
      have h1 : a'.tmps.getD 58 undef = .bool true := hdep 34 (by decide) (by kernel_rfl)
      exact gS_pick (wanted_none rfl _) rfl true _ h0 (h1) ⟨Kp.refl _ _, rfl⟩
    · cases ho
      have h0 : a'.tmps.getD 59 undef = .bool true := hdep 35 (by decide) (by kernel_rfl)
      exact gS_mv (wanted_none rfl _) rfl _ h0 ⟨Kp.refl _ _, rfl⟩
    · cases ho
      have hg : a'.tmps.getD 60 undef = .bool true := hdep 36 (by decide) (by kernel_rfl)
      have h0 : a'.tmps.getD 1 undef = .int .i64 kd := hA.old 1 (dA_ne 1 (by decide))
      exact gS_mv (wanted_y rfl rfl hg) rfl _ h0 ⟨Kp.refl _ _, rfl⟩
    · cases ho
      have hg : a'.tmps.getD 60 undef = .bool true := hdep 36 (by decide) (by kernel_rfl)
      have h0 : a'.tmps.getD 2 undef = .bool true := hA.old 2 (dA_ne 2 (by decide))
      exact gS_mv (wanted_y rfl rfl hg) rfl _ h0 ⟨Kp.refl _ _, rfl⟩
    · cases ho
      have hg : a'.tmps.getD 60 undef = .bool true := hdep 36 (by decide) (by kernel_rfl)
      have h0 : a'.eval (.tmp 61) = .int .i64 kd := hdep 37 (by decide) (by kernel_rfl)
      have h1 : a'.eval (.tmp 62) = .bool true := hdep 38 (by decide) (by kernel_rfl)
      refine gS_ca (wanted_y rfl rfl hg) rfl Try.func29 (by kernel_rfl) rfl #[.int .i64 kd, .bool true] (by simp only [List.map_toArray, List.map_cons, List.map_nil]; rw [h0, h1]) ?_
      exact (FA.out W).mono fun e w' h => ⟨_, h.1, h.2, rfl⟩
    · cases ho
      have hg : a'.tmps.getD 60 undef = .bool true := hdep 36 (by decide) (by kernel_rfl)
      have h0 : a'.tmps.getD 1 undef = .int .i64 kd := hA.old 1 (dA_ne 1 (by decide))
      exact gS_mv (wanted_y rfl rfl hg) rfl _ h0 ⟨Kp.refl _ _, rfl⟩
    · cases ho
      have hg : a'.tmps.getD 60 undef = .bool true := hdep 36 (by decide) (by kernel_rfl)
      have h0 : a'.tmps.getD 10 undef = .int .i64 1 := hA.old 10 (dA_ne 10 (by decide))
      exact gS_mv (wanted_y rfl rfl hg) rfl _ h0 ⟨Kp.refl _ _, rfl⟩
    · cases ho
      have hg : a'.tmps.getD 60 undef = .bool true := hdep 36 (by decide) (by kernel_rfl)
      have h0 : a'.eval (.tmp 64) = .int .i64 kd := hdep 40 (by decide) (by kernel_rfl)
      have h1 : a'.eval (.tmp 65) = .int .i64 1 := hdep 41 (by decide) (by kernel_rfl)
      refine gS_ca (wanted_y rfl rfl hg) rfl Try.func30 (by kernel_rfl) rfl #[.int .i64 kd, .int .i64 1] (by simp only [List.map_toArray, List.map_cons, List.map_nil]; rw [h0, h1]) ?_
      exact (FR.out W).mono fun e w' h => ⟨_, h.1, h.2, rfl⟩
    · cases ho
      have hg : a'.tmps.getD 60 undef = .bool true := hdep 36 (by decide) (by kernel_rfl)
      have h0 : a'.tmps.getD 63 undef = .int .i64 fv1 := hdep 39 (by decide) (by kernel_rfl)
      have h1 : a'.tmps.getD 66 undef = .int .i64 fv1 := hdep 42 (by decide) (by kernel_rfl)
      exact gS_bin (wanted_y rfl rfl hg) rfl _ _ _ h0 h1 (eq_k fv1 W _ _) ⟨Kp.refl _ _, rfl⟩
    · cases ho
      have h0 : a'.tmps.getD 60 undef = .bool true := hdep 36 (by decide) (by kernel_rfl)
      have h1 : a'.tmps.getD 67 undef = .bool true := hdep 43 (by decide) (by kernel_rfl)
      exact gS_pick (wanted_none rfl _) rfl true _ h0 (h1) ⟨Kp.refl _ _, rfl⟩
    · cases ho
      have h0 : a'.tmps.getD 68 undef = .bool true := hdep 44 (by decide) (by kernel_rfl)
      exact gS_mv (wanted_none rfl _) rfl _ h0 ⟨Kp.refl _ _, rfl⟩
    · cases ho
      have hg : a'.tmps.getD 69 undef = .bool true := hdep 45 (by decide) (by kernel_rfl)
      have h0 : a'.tmps.getD 1 undef = .int .i64 kd := hA.old 1 (dA_ne 1 (by decide))
      exact gS_mv (wanted_y rfl rfl hg) rfl _ h0 ⟨Kp.refl _ _, rfl⟩
    · cases ho
      have hg : a'.tmps.getD 69 undef = .bool true := hdep 45 (by decide) (by kernel_rfl)
      have h0 : a'.eval (.tmp 70) = .int .i64 kd := hdep 46 (by decide) (by kernel_rfl)
      refine gS_ca (wanted_y rfl rfl hg) rfl Try.func31 (by kernel_rfl) rfl #[.int .i64 kd] (by simp only [List.map_toArray, List.map_cons, List.map_nil]; rw [h0]) ?_
      exact (CR.out W).mono fun e w' h => ⟨_, h.1, h.2, rfl⟩
    · cases ho
      have hg : a'.tmps.getD 69 undef = .bool true := hdep 45 (by decide) (by kernel_rfl)
      have h0 : a'.tmps.getD 1 undef = .int .i64 kd := hA.old 1 (dA_ne 1 (by decide))
      exact gS_mv (wanted_y rfl rfl hg) rfl _ h0 ⟨Kp.refl _ _, rfl⟩
    · cases ho
      have hg : a'.tmps.getD 69 undef = .bool true := hdep 45 (by decide) (by kernel_rfl)
      have h0 : a'.eval (.tmp 72) = .int .i64 kd := hdep 48 (by decide) (by kernel_rfl)
      refine gS_ca (wanted_y rfl rfl hg) rfl Try.func30 (by kernel_rfl) rfl #[.int .i64 kd, .int .i64 2] (by simp only [List.map_toArray, List.map_cons, List.map_nil]; rw [h0]; rfl) ?_
      exact (F2.out W).mono fun e w' h => ⟨_, h.1, h.2, rfl⟩
    · cases ho
      have hg : a'.tmps.getD 69 undef = .bool true := hdep 45 (by decide) (by kernel_rfl)
      have h0 : a'.tmps.getD 71 undef = .int .i64 fv2 := hdep 47 (by decide) (by kernel_rfl)
      have h1 : a'.tmps.getD 73 undef = .int .i64 fv2 := hdep 49 (by decide) (by kernel_rfl)
      exact gS_bin (wanted_y rfl rfl hg) rfl _ _ _ h0 h1 (eq_k fv2 W _ _) ⟨Kp.refl _ _, rfl⟩
    · cases ho
      have h0 : a'.tmps.getD 69 undef = .bool true := hdep 45 (by decide) (by kernel_rfl)
      have h1 : a'.tmps.getD 74 undef = .bool true := hdep 50 (by decide) (by kernel_rfl)
      exact gS_pick (wanted_none rfl _) rfl true _ h0 (h1) ⟨Kp.refl _ _, rfl⟩
    · exact (nolt52 _ hi).elim
  intro w9 hk9 a2 hdf2 hsz2 hV
  have K9 := K8.trans hk9
  have h75 : a2.tmps.getD 75 undef = .bool true := hV 51 (by decide)
  refine any_1 (i := 52) (by kernel_rfl) rfl rfl (wp_as9 rfl 6 rfl (.bool true) h75 (by rw [hsz2]; show (6 : Nat) < 76; decide) ?_)
  intro ac hdf h6
  rw [hdf2] at hdf
  replace hdf : ac.defers = [] := hdf
  refine wpAny_done (by kernel_rfl) ?_ _
  go_wp2
  exact bodyPost_ret (v := .bool true) ((results_tmp rfl _ _ _).trans (by rw [h6])) hdf ⟨rfl, K9.below (fun _ _ h => h.elim) (Nat.le_refl _)⟩
set_option maxHeartbeats 8000000 in
set_option maxRecDepth 100000 in
theorem task3q_yes (m : Int) (A : Option Addr) (c : Nat) (l : Nat) (xs : List WR) (kd : Int) (w : World) (hC : Kd.C k68 w A xs.length xs) (hx : wrOk xs) (hl : U l) (hb : bgOk m xs.length) (hm0 : ∀ S : VS, bgF m xs l = S → S.m = 3) :
    Calls Try.prog 8 #[.agg (startC m A xs.length c (l : Int)), .int .i64 kd, .bool false] w fun e w' => e = .returned (.bool true) ∧ Below w.heap.size w w' := by
  have Hb := Aside0.mk hb
  have hRel := Rel.bg hx m l
  have hF : (bgF m xs l).ok := bgF_ok hx hl m
  have hR : (bgR m xs l).ok := bgR_ok hx hl m
  obtain ⟨S, hS⟩ : ∃ S, bgF m xs l = S := ⟨_, rfl⟩
  obtain ⟨R, hRR⟩ : ∃ R, bgR m xs l = R := ⟨_, rfl⟩
  have hmS : S.m = m := by rw [← hS]; rfl
  rw [hS] at hF hRel
  rw [hRR] at hR hRel
  have by_ := fun w hC => begun_yes m A c l xs w Hb.out hC hx hl
  rw [hS, hRR] at by_
  have By := Aside0.mk by_
  have HmS := Aside0.mk hmS
  have hS0 := hS
  have hRR0 := hRR
  clear by_ hS hRR hb hmS
  have hm := hm0 S hS0
  have hmR : R.m = 3 := hRel.m ▸ hm
  have e1 : S.r 1 = R.r 1 := hRel.r1
  have J21 : Aside0 (∀ W, Calls Try.prog 26 #[.agg R.cells, .int .i64 21] W fun e w' => e = .returned (.bool (bitW (S.r 1) 21)) ∧ KpN W w') := ⟨fun W => by rw [e1]; exact is_r R 21 W hR⟩
  have J20 : Aside0 (∀ W, Calls Try.prog 26 #[.agg R.cells, .int .i64 20] W fun e w' => e = .returned (.bool (bitW (S.r 1) 20)) ∧ KpN W w') := ⟨fun W => by rw [e1]; exact is_r R 20 W hR⟩
  obtain ⟨b21, h21⟩ : ∃ b, bitW (S.r 1) 21 = b := ⟨_, rfl⟩
  obtain ⟨b20, h20⟩ : ∃ b, bitW (S.r 1) 20 = b := ⟨_, rfl⟩
  have MW : Aside0 (∀ (g : Nat) W, St FT W g S → Calls Try.prog 25 #[.pointer (some ⟨g, 0, none⟩)] W fun e w' => e = .returned (.bool (true)) ∧ KpN W w') := ⟨fun g W h => by
    have := wait_c g S W h hF; rw [hm, h21] at this; exact this.mono fun _ _ q => ⟨q.1, by obtain ⟨k, hk⟩ := q.2; rw [hk]; exact (Kp.refl _ _).drewN _⟩⟩
  have MF : Aside0 (∀ (g : Nat) W, St FT W g S → Calls Try.prog 27 #[.pointer (some ⟨g, 0, none⟩)] W fun e w' => e = .returned (.bool (true)) ∧ KpN W w') := ⟨fun g W h => by
    have := fence_c g S W h hF; rw [hm, h20] at this; exact this.mono fun _ _ q => ⟨q.1, by obtain ⟨k, hk⟩ := q.2; rw [hk]; exact (Kp.refl _ _).drewN _⟩⟩
  have CL : Aside0 (∀ (g : Nat) W, St FT W g S → Calls Try.prog 28 #[.pointer (some ⟨g, 0, none⟩)] W fun e w' => e = .returned (.int .i64 11) ∧ KpN W w') := ⟨fun g W h => by
    have := call_c g S W h; rw [hm] at this; exact this.mono fun _ _ q => ⟨q.1, q.2 ▸ Kp.refl _ _⟩⟩
  have FA : Aside0 (∀ W, Calls Try.prog 29 #[.int .i64 kd, .bool false] W fun e w' => e = .returned (.int .i64 (rfaultW kd 0)) ∧ KpN W w') := ⟨fun W => by
    rw [← fault_eq0]; exact (fault_c kd false W).mono fun _ _ q => ⟨q.1, q.2 ▸ Kp.refl _ _⟩⟩
  have FR : Aside0 (∀ W, Calls Try.prog 30 #[.int .i64 kd, .int .i64 0] W fun e w' => e = .returned (.int .i64 (rfaultW kd 0)) ∧ KpN W w') := ⟨fun W => fault_r0 kd W⟩
  have CR : Aside0 (∀ W, Calls Try.prog 31 #[.int .i64 kd] W fun e w' => e = .returned (.int .i64 (rfaultW kd 2)) ∧ KpN W w') := ⟨fun W => by
    rw [← crooked_eq]; exact (crooked_c kd W).mono fun _ _ q => ⟨q.1, q.2 ▸ Kp.refl _ _⟩⟩
  have F2 : Aside0 (∀ W, Calls Try.prog 30 #[.int .i64 kd, .int .i64 2] W fun e w' => e = .returned (.int .i64 (rfaultW kd 2)) ∧ KpN W w') := ⟨fun W => fault_r2 kd W⟩
  rw [h21] at J21
  rw [h20] at J20
  generalize rfaultW kd 2 = fv2 at CR F2
  generalize rfaultW kd 0 = fv1 at FA FR
  have HmR := Aside0.mk hmR
  clear hm hmR hm0 hS0 hRR0 hRel e1 h21 h20
  go_enter Try.func8, Try.ntmps8
  go_wp2_with (first
    | ((with_reducible refine gate_dst (N := 3) rfl ?_); refine bx_ev rfl rfl (N := 3) rfl (startC m A xs.length c (l : Int)) rfl ?_; intro g hg_g w1 hb_g hk_g; have Hg_g := Aside0.mk hg_g; clear hg_g)
    | (go_at_call 9; refine (awake9_c _).mono ?_; rintro e w2 ⟨rfl, hk2⟩; have hG2 := (Bk.mk hb_g).kp hk2 (fun h => h); have hC2 : Kd.C k68 w2 A xs.length xs := Kd.C_below hC ((hk_g.trans hk2).below (fun _ _ h => h.elim) (Nat.le_refl _)))
    | ((with_reducible refine gate_dst (N := 15) rfl ?_); refine wpList_load_row rfl 25 _ rfl g rfl _ (startC m A xs.length c (l : Int)) (0, 0) _ (hG2.blk) Try.underlying25 rfl infoS ?_)
    | (go_at_call 10; refine ((By.out _ hC2)).mono ?_; rintro e w3 ⟨rfl, hk3⟩)
    | ((with_reducible refine gate_dst (N := 7) rfl ?_); refine al_ev rfl rfl (N := 7) rfl _ (zeroF _) ?_; intro f hg_f w4 hb_f hk_f; have Hg_f := Aside0.mk hg_f; clear hg_f)
    | ((with_reducible refine gate_dst (N := 8) rfl ?_); refine al_ev rfl rfl (N := 8) rfl _ (zeroR _) ?_; intro p hg_p w5 hb_p hk_p; have Hg_p := Aside0.mk hg_p; clear hg_p)
    | (((with_reducible refine gate_store (t := 31) (p := 7) rfl ?_); refine st_ev rfl rfl rfl f (S.cells) _ _ rfl rfl (((Bk.mk hb_f).kp hk_p (fun h => h)).blk) infoF rfl (VS.one _) ?_; intro w6 hs_w6 ks_w6); have hpf : p ≠ f := (by have := Hg_p.out; have := blk_lt hb_f; omega); have hP6 := (Bk.mk hb_p).kp ks_w6 hpf)
    | (((with_reducible refine gate_store (t := 34) (p := 8) rfl ?_); refine st_ev rfl rfl rfl p (R.cells) _ _ rfl rfl (hP6.blk) infoR rfl (VS.one _) ?_; intro w7 hs_w7 ks_w7); have hI : St FT w7 f S := (St.mk hs_w6).kp ks_w7 (fun e : f = p => hpf e.symm); have hP : St RT w7 p R := St.mk hs_w7; have hfw : w.heap.size ≤ f := (by have := Hg_f.out; have := ((hk_g.trans hk2).trans hk3).size; omega); have hpw : w.heap.size ≤ p := (by have := Hg_p.out; have := (((hk_g.trans hk2).trans hk3).trans hk_f).size; omega); have K7 : KpN w w7 := ((((((hk_g.trans hk2).trans hk3).trans hk_f).trans hk_p).then ks_w6 fun i hi (e : i = f) => by omega).then ks_w7 fun i hi (e : i = p) => by omega); clear hb_g hk_g Hg_g hk2 hG2 hC2 hk3 hb_f hk_f Hg_f hb_p hk_p Hg_p hs_w6 ks_w6 hP6 hs_w7 ks_w7))
  have hnew := heap_alloc_new w7 (.cells #[.int .i64 8, .int .i64 9, .int .i64 0, .int .i64 11] 3)
  have hq := hI.lt
  have hp_ := hP.lt
  have hI8 : St FT (w7.alloc (.cells #[.int .i64 8, .int .i64 9, .int .i64 0, .int .i64 11] 3)) f S := hI.alloc _
  have hP8 : St RT (w7.alloc (.cells #[.int .i64 8, .int .i64 9, .int .i64 0, .int .i64 11] 3)) p R := hP.alloc _
  have K8 : KpN w (w7.alloc (.cells #[.int .i64 8, .int .i64 9, .int .i64 0, .int .i64 11] 3)) := K7.alloc _
  have hL8 : Bk (w7.alloc (.cells #[.int .i64 8, .int .i64 9, .int .i64 0, .int .i64 11] 3)) w7.heap.size #[.int .i64 8, .int .i64 9, .int .i64 0, .int .i64 11] 3 := ⟨hnew⟩
  generalize w7.alloc (.cells #[.int .i64 8, .int .i64 9, .int .i64 0, .int .i64 11] 3) = w8 at hI8 hP8 K8 hL8 ⊢
  generalize w7.heap.size = qb at hL8 ⊢
  clear hnew hq hp_ hI hP K7
  have cp : ∀ W, KpN w8 W → W.cell? ⟨p, 0, none⟩ = some (.int .i64 3) := fun W hW => by rw [← HmR.out]; exact (hP8.kp hW (fun h => h)).c0
  have cq : ∀ W, KpN w8 W → W.cell? ⟨qb, 3, none⟩ = some (.int .i64 11) := fun W hW => (hL8.kp hW (fun h => h)).c 3
  have CP := Aside0.mk cp
  have CQ := Aside0.mk cq
  clear cp cq
  refine wp_region_vals2 52 1 #[true, true, true, true, true, true, true, true, true, true, true, true, true, true, true, true, true, true, true, true, true, true, true, true, true, true, true, true, true, true, true, true, true, true, true, true, true, true, true, true, true, true, true, true, true, true, true, true, true, true, true, true, false] dA (vAq p qb kd fv1 fv2) (by kernel_rfl) (by kernel_rfl) rfl ?_ ?_ ?_ ?_ ?_
  · intro i o hi ho
    rcases i with _ | _ | _ | _ | _ | _ | _ | _ | _ | _ | _ | _ | _ | _ | _ | _ | _ | _ | _ | _ | _ | _ | _ | _ | _ | _ | _ | _ | _ | _ | _ | _ | _ | _ | _ | _ | _ | _ | _ | _ | _ | _ | _ | _ | _ | _ | _ | _ | _ | _ | _ | _ | i
    all_goals first | (cases ho; rfl) | omega
  · intro i hi
    refine Nat.lt_of_le_of_lt (dA_le i) ?_
    show (75 : Nat) < 76; decide
  · exact dA_inj
  · intro i o hi ho a' W hW hA hdep
    rcases i with _ | _ | _ | _ | _ | _ | _ | _ | _ | _ | _ | _ | _ | _ | _ | _ | _ | _ | _ | _ | _ | _ | _ | _ | _ | _ | _ | _ | _ | _ | _ | _ | _ | _ | _ | _ | _ | _ | _ | _ | _ | _ | _ | _ | _ | _ | _ | _ | _ | _ | _ | _ | i
    · cases ho
      have h0 : a'.eval (.tmp 7) = .pointer (some ⟨f, 0, none⟩) := hA.old 7 (dA_ne 7 (by decide))
      refine gS_ca (wanted_none rfl _) rfl Try.func25 (by kernel_rfl) rfl #[.pointer (some ⟨f, 0, none⟩)] (by simp only [List.map_toArray, List.map_cons, List.map_nil]; rw [h0]) ?_
      exact (MW.out f W (hI8.kp hW (fun h => h))).mono fun e w' h => ⟨_, h.1, h.2, rfl⟩
    · cases ho
      have h0 : a'.tmps.getD 8 undef = .pointer (some ⟨p, 0, none⟩) := hA.old 8 (dA_ne 8 (by decide))
      exact gS_fa (wanted_none rfl _) rfl _ _ h0 (fa34 p W) ⟨Kp.refl _ _, rfl⟩
    · cases ho
      have h0 : a'.tmps.getD 25 undef = .pointer (some ⟨p, 0, none⟩) := hdep 1 (by decide) (by kernel_rfl)
      exact gS_load (wanted_none rfl _) rfl _ _ h0 (ld3 _ _ W (CP.out W hW)) ⟨Kp.refl _ _, rfl⟩
    · cases ho
      have h0 : a'.tmps.getD 26 undef = .int .i64 3 := hdep 2 (by decide) (by kernel_rfl)
      exact gS_bin (wanted_none rfl _) rfl _ _ _ h0 rfl (eq_3 W _ _) ⟨Kp.refl _ _, rfl⟩
    · cases ho
      have h0 : a'.tmps.getD 27 undef = .bool true := hdep 3 (by decide) (by kernel_rfl)
      exact gS_mv (wanted_none rfl _) rfl _ h0 ⟨Kp.refl _ _, rfl⟩
    · cases ho
      have hg : a'.tmps.getD 28 undef = .bool true := hdep 4 (by decide) (by kernel_rfl)
      exact sS_no (wanted_n rfl rfl hg (by decide)) ⟨Kp.refl _ _, rfl⟩
    · cases ho
      have hg : a'.tmps.getD 28 undef = .bool true := hdep 4 (by decide) (by kernel_rfl)
      exact sS_no (wanted_n rfl rfl hg (by decide)) ⟨Kp.refl _ _, rfl⟩
    · cases ho
      have hg : a'.tmps.getD 28 undef = .bool true := hdep 4 (by decide) (by kernel_rfl)
      exact sS_no (wanted_n rfl rfl hg (by decide)) ⟨Kp.refl _ _, rfl⟩
    · cases ho
      have h0 : a'.tmps.getD 28 undef = .bool true := hdep 4 (by decide) (by kernel_rfl)
      exact gS_pick (wanted_none rfl _) rfl true _ h0 (rfl) ⟨Kp.refl _ _, rfl⟩
    · cases ho
      have h0 : a'.tmps.getD 24 undef = .bool true := hdep 0 (by decide) (by kernel_rfl)
      have h1 : a'.tmps.getD 32 undef = .bool true := hdep 8 (by decide) (by kernel_rfl)
      exact gS_bin (wanted_none rfl _) rfl _ _ _ h0 h1 (eq_b W _ _) ⟨Kp.refl _ _, rfl⟩
    · cases ho
      have h0 : a'.tmps.getD 33 undef = .bool true := hdep 9 (by decide) (by kernel_rfl)
      exact gS_mv (wanted_none rfl _) rfl _ h0 ⟨Kp.refl _ _, rfl⟩
    · cases ho
      have hg : a'.tmps.getD 34 undef = .bool true := hdep 10 (by decide) (by kernel_rfl)
      have h0 : a'.eval (.tmp 7) = .pointer (some ⟨f, 0, none⟩) := hA.old 7 (dA_ne 7 (by decide))
      refine gS_ca (wanted_y rfl rfl hg) rfl Try.func27 (by kernel_rfl) rfl #[.pointer (some ⟨f, 0, none⟩)] (by simp only [List.map_toArray, List.map_cons, List.map_nil]; rw [h0]) ?_
      exact (MF.out f W (hI8.kp hW (fun h => h))).mono fun e w' h => ⟨_, h.1, h.2, rfl⟩
    · cases ho
      have hg : a'.tmps.getD 34 undef = .bool true := hdep 10 (by decide) (by kernel_rfl)
      have h0 : a'.tmps.getD 8 undef = .pointer (some ⟨p, 0, none⟩) := hA.old 8 (dA_ne 8 (by decide))
      exact gS_fa (wanted_y rfl rfl hg) rfl _ _ h0 (fa34 p W) ⟨Kp.refl _ _, rfl⟩
    · cases ho
      have hg : a'.tmps.getD 34 undef = .bool true := hdep 10 (by decide) (by kernel_rfl)
      have h0 : a'.tmps.getD 36 undef = .pointer (some ⟨p, 0, none⟩) := hdep 12 (by decide) (by kernel_rfl)
      exact gS_load (wanted_y rfl rfl hg) rfl _ _ h0 (ld3 _ _ W (CP.out W hW)) ⟨Kp.refl _ _, rfl⟩
    · cases ho
      have hg : a'.tmps.getD 34 undef = .bool true := hdep 10 (by decide) (by kernel_rfl)
      have h0 : a'.tmps.getD 37 undef = .int .i64 3 := hdep 13 (by decide) (by kernel_rfl)
      exact gS_bin (wanted_y rfl rfl hg) rfl _ _ _ h0 rfl (eq_3 W _ _) ⟨Kp.refl _ _, rfl⟩
    · cases ho
      have hg : a'.tmps.getD 34 undef = .bool true := hdep 10 (by decide) (by kernel_rfl)
      have h0 : a'.tmps.getD 38 undef = .bool true := hdep 14 (by decide) (by kernel_rfl)
      exact gS_mv (wanted_y rfl rfl hg) rfl _ h0 ⟨Kp.refl _ _, rfl⟩
    · cases ho
      have hg : a'.tmps.getD 39 undef = .bool true := hdep 15 (by decide) (by kernel_rfl)
      exact sS_no (wanted_n rfl rfl hg (by decide)) ⟨Kp.refl _ _, rfl⟩
    · cases ho
      have hg : a'.tmps.getD 39 undef = .bool true := hdep 15 (by decide) (by kernel_rfl)
      exact sS_no (wanted_n rfl rfl hg (by decide)) ⟨Kp.refl _ _, rfl⟩
    · cases ho
      have hg : a'.tmps.getD 39 undef = .bool true := hdep 15 (by decide) (by kernel_rfl)
      exact sS_no (wanted_n rfl rfl hg (by decide)) ⟨Kp.refl _ _, rfl⟩
    · cases ho
      have hg : a'.tmps.getD 39 undef = .bool true := hdep 15 (by decide) (by kernel_rfl)
      exact sS_no (wanted_n rfl rfl hg (by decide)) ⟨Kp.refl _ _, rfl⟩
    · cases ho
      have hg : a'.tmps.getD 43 undef = undef := hdep 19 (by decide) (by kernel_rfl)
      exact sS_no (wanted_n rfl rfl hg (by intro h; cases h)) ⟨Kp.refl _ _, rfl⟩
    · cases ho
      have hg : a'.tmps.getD 43 undef = undef := hdep 19 (by decide) (by kernel_rfl)
      exact sS_no (wanted_n rfl rfl hg (by intro h; cases h)) ⟨Kp.refl _ _, rfl⟩
    · cases ho
      have hg : a'.tmps.getD 43 undef = undef := hdep 19 (by decide) (by kernel_rfl)
      exact sS_no (wanted_n rfl rfl hg (by intro h; cases h)) ⟨Kp.refl _ _, rfl⟩
    · cases ho
      have hg : a'.tmps.getD 39 undef = .bool true := hdep 15 (by decide) (by kernel_rfl)
      exact sS_no (wanted_n rfl rfl hg (by decide)) ⟨Kp.refl _ _, rfl⟩
    · cases ho
      have hg : a'.tmps.getD 34 undef = .bool true := hdep 10 (by decide) (by kernel_rfl)
      have h0 : a'.tmps.getD 39 undef = .bool true := hdep 15 (by decide) (by kernel_rfl)
      exact gS_pick (wanted_y rfl rfl hg) rfl true _ h0 (rfl) ⟨Kp.refl _ _, rfl⟩
    · cases ho
      have hg : a'.tmps.getD 34 undef = .bool true := hdep 10 (by decide) (by kernel_rfl)
      have h0 : a'.tmps.getD 35 undef = .bool true := hdep 11 (by decide) (by kernel_rfl)
      have h1 : a'.tmps.getD 48 undef = .bool true := hdep 24 (by decide) (by kernel_rfl)
      exact gS_bin (wanted_y rfl rfl hg) rfl _ _ _ h0 h1 (eq_b W _ _) ⟨Kp.refl _ _, rfl⟩
    · cases ho
      have h0 : a'.tmps.getD 34 undef = .bool true := hdep 10 (by decide) (by kernel_rfl)
      have h1 : a'.tmps.getD 49 undef = .bool true := hdep 25 (by decide) (by kernel_rfl)
      exact gS_pick (wanted_none rfl _) rfl true _ h0 (h1) ⟨Kp.refl _ _, rfl⟩
    · cases ho
      have h0 : a'.tmps.getD 50 undef = .bool true := hdep 26 (by decide) (by kernel_rfl)
      exact gS_mv (wanted_none rfl _) rfl _ h0 ⟨Kp.refl _ _, rfl⟩
    · cases ho
      have hg : a'.tmps.getD 51 undef = .bool true := hdep 27 (by decide) (by kernel_rfl)
      have h0 : a'.eval (.tmp 7) = .pointer (some ⟨f, 0, none⟩) := hA.old 7 (dA_ne 7 (by decide))
      refine gS_ca (wanted_y rfl rfl hg) rfl Try.func28 (by kernel_rfl) rfl #[.pointer (some ⟨f, 0, none⟩)] (by simp only [List.map_toArray, List.map_cons, List.map_nil]; rw [h0]) ?_
      exact (CL.out f W (hI8.kp hW (fun h => h))).mono fun e w' h => ⟨_, h.1, h.2, rfl⟩
    · cases ho
      have hg : a'.tmps.getD 51 undef = .bool true := hdep 27 (by decide) (by kernel_rfl)
      have h0 : a'.tmps.getD 11 undef = .slice (some ⟨qb, 0, none⟩) 4 4 := hA.old 11 (dA_ne 11 (by decide))
      exact gS_mv (wanted_y rfl rfl hg) rfl _ h0 ⟨Kp.refl _ _, rfl⟩
    · cases ho
      have hg : a'.tmps.getD 51 undef = .bool true := hdep 27 (by decide) (by kernel_rfl)
      have h0 : a'.tmps.getD 8 undef = .pointer (some ⟨p, 0, none⟩) := hA.old 8 (dA_ne 8 (by decide))
      exact gS_fa (wanted_y rfl rfl hg) rfl _ _ h0 (fa34 p W) ⟨Kp.refl _ _, rfl⟩
    · cases ho
      have hg : a'.tmps.getD 51 undef = .bool true := hdep 27 (by decide) (by kernel_rfl)
      have h0 : a'.tmps.getD 54 undef = .pointer (some ⟨p, 0, none⟩) := hdep 30 (by decide) (by kernel_rfl)
      exact gS_load (wanted_y rfl rfl hg) rfl _ _ h0 (ld3 _ _ W (CP.out W hW)) ⟨Kp.refl _ _, rfl⟩
    · cases ho
      have hg : a'.tmps.getD 51 undef = .bool true := hdep 27 (by decide) (by kernel_rfl)
      have h0 : a'.tmps.getD 53 undef = .slice (some ⟨qb, 0, none⟩) 4 4 := hdep 29 (by decide) (by kernel_rfl)
      have h1 : a'.tmps.getD 55 undef = .int .i64 3 := hdep 31 (by decide) (by kernel_rfl)
      exact gS_ia (wanted_y rfl rfl hg) rfl _ _ _ h0 h1 (ia57 qb W) ⟨Kp.refl _ _, rfl⟩
    · cases ho
      have hg : a'.tmps.getD 51 undef = .bool true := hdep 27 (by decide) (by kernel_rfl)
      have h0 : a'.tmps.getD 56 undef = .pointer (some ⟨qb, 3, none⟩) := hdep 32 (by decide) (by kernel_rfl)
      exact gS_load (wanted_y rfl rfl hg) rfl _ _ h0 (ld3 _ _ W (CQ.out W hW)) ⟨Kp.refl _ _, rfl⟩
    · cases ho
      have hg : a'.tmps.getD 51 undef = .bool true := hdep 27 (by decide) (by kernel_rfl)
      have h0 : a'.tmps.getD 52 undef = .int .i64 11 := hdep 28 (by decide) (by kernel_rfl)
      have h1 : a'.tmps.getD 57 undef = .int .i64 11 := hdep 33 (by decide) (by kernel_rfl)
      exact gS_bin (wanted_y rfl rfl hg) rfl _ _ _ h0 h1 (eq_k 11 W _ _) ⟨Kp.refl _ _, rfl⟩
    · cases ho
      have h0 : a'.tmps.getD 51 undef = .bool true := hdep 27 (by decide) (by kernel_rfl)
      have h1 : a'.tmps.getD 58 undef = .bool true := hdep 34 (by decide) (by kernel_rfl)
      exact gS_pick (wanted_none rfl _) rfl true _ h0 (h1) ⟨Kp.refl _ _, rfl⟩
    · cases ho
      have h0 : a'.tmps.getD 59 undef = .bool true := hdep 35 (by decide) (by kernel_rfl)
      exact gS_mv (wanted_none rfl _) rfl _ h0 ⟨Kp.refl _ _, rfl⟩
    · cases ho
      have hg : a'.tmps.getD 60 undef = .bool true := hdep 36 (by decide) (by kernel_rfl)
      have h0 : a'.tmps.getD 1 undef = .int .i64 kd := hA.old 1 (dA_ne 1 (by decide))
      exact gS_mv (wanted_y rfl rfl hg) rfl _ h0 ⟨Kp.refl _ _, rfl⟩
    · cases ho
      have hg : a'.tmps.getD 60 undef = .bool true := hdep 36 (by decide) (by kernel_rfl)
      have h0 : a'.tmps.getD 2 undef = .bool false := hA.old 2 (dA_ne 2 (by decide))
      exact gS_mv (wanted_y rfl rfl hg) rfl _ h0 ⟨Kp.refl _ _, rfl⟩
    · cases ho
      have hg : a'.tmps.getD 60 undef = .bool true := hdep 36 (by decide) (by kernel_rfl)
      have h0 : a'.eval (.tmp 61) = .int .i64 kd := hdep 37 (by decide) (by kernel_rfl)
      have h1 : a'.eval (.tmp 62) = .bool false := hdep 38 (by decide) (by kernel_rfl)
      refine gS_ca (wanted_y rfl rfl hg) rfl Try.func29 (by kernel_rfl) rfl #[.int .i64 kd, .bool false] (by simp only [List.map_toArray, List.map_cons, List.map_nil]; rw [h0, h1]) ?_
      exact (FA.out W).mono fun e w' h => ⟨_, h.1, h.2, rfl⟩
    · cases ho
      have hg : a'.tmps.getD 60 undef = .bool true := hdep 36 (by decide) (by kernel_rfl)
      have h0 : a'.tmps.getD 1 undef = .int .i64 kd := hA.old 1 (dA_ne 1 (by decide))
      exact gS_mv (wanted_y rfl rfl hg) rfl _ h0 ⟨Kp.refl _ _, rfl⟩
    · cases ho
      have hg : a'.tmps.getD 60 undef = .bool true := hdep 36 (by decide) (by kernel_rfl)
      have h0 : a'.tmps.getD 10 undef = .int .i64 0 := hA.old 10 (dA_ne 10 (by decide))
      exact gS_mv (wanted_y rfl rfl hg) rfl _ h0 ⟨Kp.refl _ _, rfl⟩
    · cases ho
      have hg : a'.tmps.getD 60 undef = .bool true := hdep 36 (by decide) (by kernel_rfl)
      have h0 : a'.eval (.tmp 64) = .int .i64 kd := hdep 40 (by decide) (by kernel_rfl)
      have h1 : a'.eval (.tmp 65) = .int .i64 0 := hdep 41 (by decide) (by kernel_rfl)
      refine gS_ca (wanted_y rfl rfl hg) rfl Try.func30 (by kernel_rfl) rfl #[.int .i64 kd, .int .i64 0] (by simp only [List.map_toArray, List.map_cons, List.map_nil]; rw [h0, h1]) ?_
      exact (FR.out W).mono fun e w' h => ⟨_, h.1, h.2, rfl⟩
    · cases ho
      have hg : a'.tmps.getD 60 undef = .bool true := hdep 36 (by decide) (by kernel_rfl)
      have h0 : a'.tmps.getD 63 undef = .int .i64 fv1 := hdep 39 (by decide) (by kernel_rfl)
      have h1 : a'.tmps.getD 66 undef = .int .i64 fv1 := hdep 42 (by decide) (by kernel_rfl)
      exact gS_bin (wanted_y rfl rfl hg) rfl _ _ _ h0 h1 (eq_k fv1 W _ _) ⟨Kp.refl _ _, rfl⟩
    · cases ho
      have h0 : a'.tmps.getD 60 undef = .bool true := hdep 36 (by decide) (by kernel_rfl)
      have h1 : a'.tmps.getD 67 undef = .bool true := hdep 43 (by decide) (by kernel_rfl)
      exact gS_pick (wanted_none rfl _) rfl true _ h0 (h1) ⟨Kp.refl _ _, rfl⟩
    · cases ho
      have h0 : a'.tmps.getD 68 undef = .bool true := hdep 44 (by decide) (by kernel_rfl)
      exact gS_mv (wanted_none rfl _) rfl _ h0 ⟨Kp.refl _ _, rfl⟩
    · cases ho
      have hg : a'.tmps.getD 69 undef = .bool true := hdep 45 (by decide) (by kernel_rfl)
      have h0 : a'.tmps.getD 1 undef = .int .i64 kd := hA.old 1 (dA_ne 1 (by decide))
      exact gS_mv (wanted_y rfl rfl hg) rfl _ h0 ⟨Kp.refl _ _, rfl⟩
    · cases ho
      have hg : a'.tmps.getD 69 undef = .bool true := hdep 45 (by decide) (by kernel_rfl)
      have h0 : a'.eval (.tmp 70) = .int .i64 kd := hdep 46 (by decide) (by kernel_rfl)
      refine gS_ca (wanted_y rfl rfl hg) rfl Try.func31 (by kernel_rfl) rfl #[.int .i64 kd] (by simp only [List.map_toArray, List.map_cons, List.map_nil]; rw [h0]) ?_
      exact (CR.out W).mono fun e w' h => ⟨_, h.1, h.2, rfl⟩
    · cases ho
      have hg : a'.tmps.getD 69 undef = .bool true := hdep 45 (by decide) (by kernel_rfl)
      have h0 : a'.tmps.getD 1 undef = .int .i64 kd := hA.old 1 (dA_ne 1 (by decide))
      exact gS_mv (wanted_y rfl rfl hg) rfl _ h0 ⟨Kp.refl _ _, rfl⟩
    · cases ho
      have hg : a'.tmps.getD 69 undef = .bool true := hdep 45 (by decide) (by kernel_rfl)
      have h0 : a'.eval (.tmp 72) = .int .i64 kd := hdep 48 (by decide) (by kernel_rfl)
      refine gS_ca (wanted_y rfl rfl hg) rfl Try.func30 (by kernel_rfl) rfl #[.int .i64 kd, .int .i64 2] (by simp only [List.map_toArray, List.map_cons, List.map_nil]; rw [h0]; rfl) ?_
      exact (F2.out W).mono fun e w' h => ⟨_, h.1, h.2, rfl⟩
    · cases ho
      have hg : a'.tmps.getD 69 undef = .bool true := hdep 45 (by decide) (by kernel_rfl)
      have h0 : a'.tmps.getD 71 undef = .int .i64 fv2 := hdep 47 (by decide) (by kernel_rfl)
      have h1 : a'.tmps.getD 73 undef = .int .i64 fv2 := hdep 49 (by decide) (by kernel_rfl)
      exact gS_bin (wanted_y rfl rfl hg) rfl _ _ _ h0 h1 (eq_k fv2 W _ _) ⟨Kp.refl _ _, rfl⟩
    · cases ho
      have h0 : a'.tmps.getD 69 undef = .bool true := hdep 45 (by decide) (by kernel_rfl)
      have h1 : a'.tmps.getD 74 undef = .bool true := hdep 50 (by decide) (by kernel_rfl)
      exact gS_pick (wanted_none rfl _) rfl true _ h0 (h1) ⟨Kp.refl _ _, rfl⟩
    · exact (nolt52 _ hi).elim
  intro w9 hk9 a2 hdf2 hsz2 hV
  have K9 := K8.trans hk9
  have h75 : a2.tmps.getD 75 undef = .bool true := hV 51 (by decide)
  refine any_1 (i := 52) (by kernel_rfl) rfl rfl (wp_as9 rfl 6 rfl (.bool true) h75 (by rw [hsz2]; show (6 : Nat) < 76; decide) ?_)
  intro ac hdf h6
  rw [hdf2] at hdf
  replace hdf : ac.defers = [] := hdf
  refine wpAny_done (by kernel_rfl) ?_ _
  go_wp2
  exact bodyPost_ret (v := .bool true) ((results_tmp rfl _ _ _).trans (by rw [h6])) hdf ⟨rfl, K9.below (fun _ _ h => h.elim) (Nat.le_refl _)⟩
end Go.Proofs.Ytnknfepbekaobaa.H
/- TrapAsks, walked by hand: the other two modes (wip/tools/lawasks.py task0p task0q task1p task1q), and the law. -/
namespace Go.Proofs.Ytnknfepbekaobaa.H
open Go.RowKit Go.Proofs.YtnknfepbekaobaaW.PrintWords Go.Proofs.YtnknfepbekaobaaW.PrintLast Go.Proofs.Ytnknfepbekaobaa.PAl Go.Proofs.Ytnknfepbekaobaa.Pure Go.Proofs.Ytnknfepbekaobaa.Vw
set_option linter.unusedVariables false
set_option linter.unusedSimpArgs false
open Go.Sort
set_option maxHeartbeats 8000000 in
set_option maxRecDepth 100000 in
theorem task0p_no (m : Int) (A : Option Addr) (c : Nat) (l : Nat) (xs : List WR) (kd : Int) (w : World) (hC : Kd.C k68 w A xs.length xs) (hb : ¬ bgOk m xs.length) :
    Calls Try.prog 8 #[.agg (startC m A xs.length c (l : Int)), .int .i64 kd, .bool true] w fun e w' => e = .returned (.bool true) ∧ Below w.heap.size w w' := by
  have Hb := Aside0.mk hb
  clear hb
  go_enter Try.func8, Try.ntmps8
  go_wp2_with (first
    | ((with_reducible refine gate_dst (N := 3) rfl ?_); refine bx_ev rfl rfl (N := 3) rfl (startC m A xs.length c (l : Int)) rfl ?_; intro g hg_g w1 hb_g hk_g; have Hg_g := Aside0.mk hg_g; clear hg_g)
    | (go_at_call 9; refine (awake9_c _).mono ?_; rintro e w2 ⟨rfl, hk2⟩; have hG2 := (Bk.mk hb_g).kp hk2 (fun h => h); have hC2 : Kd.C k68 w2 A xs.length xs := Kd.C_below hC ((hk_g.trans hk2).below (fun _ _ h => h.elim) (Nat.le_refl _)))
    | ((with_reducible refine gate_dst (N := 15) rfl ?_); refine wpList_load_row rfl 25 _ rfl g rfl _ (startC m A xs.length c (l : Int)) (0, 0) _ (hG2.blk) Try.underlying25 rfl infoS ?_)
    | (go_at_call 10; refine ((begun_no m A c l xs _ Hb.out)).mono ?_; rintro e w3 ⟨rfl, hk3⟩)
    | ((with_reducible refine gate_dst (N := 7) rfl ?_); refine al_ev rfl rfl (N := 7) rfl _ (zeroF _) ?_; intro f hg_f w4 hb_f hk_f; have Hg_f := Aside0.mk hg_f; clear hg_f)
    | ((with_reducible refine gate_dst (N := 8) rfl ?_); refine al_ev rfl rfl (N := 8) rfl _ (zeroR _) ?_; intro p hg_p w5 hb_p hk_p; have Hg_p := Aside0.mk hg_p; clear hg_p)
    | (((with_reducible refine gate_store (t := 31) (p := 7) rfl ?_); refine st_ev rfl rfl rfl f (vs0.cells) _ _ rfl rfl (((Bk.mk hb_f).kp hk_p (fun h => h)).blk) infoF rfl (VS.one _) ?_; intro w6 hs_w6 ks_w6); have hpf : p ≠ f := (by have := Hg_p.out; have := blk_lt hb_f; omega); have hP6 := (Bk.mk hb_p).kp ks_w6 hpf)
    | (((with_reducible refine gate_store (t := 34) (p := 8) rfl ?_); refine st_ev rfl rfl rfl p (vs0.cells) _ _ rfl rfl (hP6.blk) infoR rfl (VS.one _) ?_; intro w7 hs_w7 ks_w7); have hI : St FT w7 f vs0 := (St.mk hs_w6).kp ks_w7 (fun e : f = p => hpf e.symm); have hP : St RT w7 p vs0 := St.mk hs_w7; have hfw : w.heap.size ≤ f := (by have := Hg_f.out; have := ((hk_g.trans hk2).trans hk3).size; omega); have hpw : w.heap.size ≤ p := (by have := Hg_p.out; have := (((hk_g.trans hk2).trans hk3).trans hk_f).size; omega); have K7 : KpN w w7 := ((((((hk_g.trans hk2).trans hk3).trans hk_f).trans hk_p).then ks_w6 fun i hi (e : i = f) => by omega).then ks_w7 fun i hi (e : i = p) => by omega); clear hb_g hk_g Hg_g hk2 hG2 hC2 hk3 hb_f hk_f Hg_f hb_p hk_p Hg_p hs_w6 ks_w6 hP6 hs_w7 ks_w7))
  go_ret
  exact ⟨rfl, K7.below (fun _ _ h => h.elim) (Nat.le_refl _)⟩
set_option maxHeartbeats 8000000 in
set_option maxRecDepth 100000 in
theorem task0p_yes (m : Int) (A : Option Addr) (c : Nat) (l : Nat) (xs : List WR) (kd : Int) (w : World) (hC : Kd.C k68 w A xs.length xs) (hx : wrOk xs) (hl : U l) (hb : bgOk m xs.length) (hm0 : ∀ S : VS, bgF m xs l = S → S.m = 0) :
    Calls Try.prog 8 #[.agg (startC m A xs.length c (l : Int)), .int .i64 kd, .bool true] w fun e w' => e = .returned (.bool true) ∧ Below w.heap.size w w' := by
  have Hb := Aside0.mk hb
  have hRel := Rel.bg hx m l
  have hF : (bgF m xs l).ok := bgF_ok hx hl m
  have hR : (bgR m xs l).ok := bgR_ok hx hl m
  obtain ⟨S, hS⟩ : ∃ S, bgF m xs l = S := ⟨_, rfl⟩
  obtain ⟨R, hRR⟩ : ∃ R, bgR m xs l = R := ⟨_, rfl⟩
  have hmS : S.m = m := by rw [← hS]; rfl
  rw [hS] at hF hRel
  rw [hRR] at hR hRel
  have by_ := fun w hC => begun_yes m A c l xs w Hb.out hC hx hl
  rw [hS, hRR] at by_
  have By := Aside0.mk by_
  have HmS := Aside0.mk hmS
  have hS0 := hS
  have hRR0 := hRR
  clear by_ hS hRR hb hmS
  have hm := hm0 S hS0
  have hmR : R.m = 0 := hRel.m ▸ hm
  have e1 : S.r 1 = R.r 1 := hRel.r1
  have J21 : Aside0 (∀ W, Calls Try.prog 26 #[.agg R.cells, .int .i64 21] W fun e w' => e = .returned (.bool (bitW (S.r 1) 21)) ∧ KpN W w') := ⟨fun W => by rw [e1]; exact is_r R 21 W hR⟩
  have J20 : Aside0 (∀ W, Calls Try.prog 26 #[.agg R.cells, .int .i64 20] W fun e w' => e = .returned (.bool (bitW (S.r 1) 20)) ∧ KpN W w') := ⟨fun W => by rw [e1]; exact is_r R 20 W hR⟩
  obtain ⟨b21, h21⟩ : ∃ b, bitW (S.r 1) 21 = b := ⟨_, rfl⟩
  obtain ⟨b20, h20⟩ : ∃ b, bitW (S.r 1) 20 = b := ⟨_, rfl⟩
  have MW : Aside0 (∀ (g : Nat) W, St FT W g S → Calls Try.prog 25 #[.pointer (some ⟨g, 0, none⟩)] W fun e w' => e = .returned (.bool (!b21)) ∧ KpN W w') := ⟨fun g W h => by
    have := wait_c g S W h hF; rw [hm, h21] at this; exact this.mono fun _ _ q => ⟨q.1, by obtain ⟨k, hk⟩ := q.2; rw [hk]; exact (Kp.refl _ _).drewN _⟩⟩
  have MF : Aside0 (∀ (g : Nat) W, St FT W g S → Calls Try.prog 27 #[.pointer (some ⟨g, 0, none⟩)] W fun e w' => e = .returned (.bool (false)) ∧ KpN W w') := ⟨fun g W h => by
    have := fence_c g S W h hF; rw [hm, h20] at this; exact this.mono fun _ _ q => ⟨q.1, by obtain ⟨k, hk⟩ := q.2; rw [hk]; exact (Kp.refl _ _).drewN _⟩⟩
  have CL : Aside0 (∀ (g : Nat) W, St FT W g S → Calls Try.prog 28 #[.pointer (some ⟨g, 0, none⟩)] W fun e w' => e = .returned (.int .i64 8) ∧ KpN W w') := ⟨fun g W h => by
    have := call_c g S W h; rw [hm] at this; exact this.mono fun _ _ q => ⟨q.1, q.2 ▸ Kp.refl _ _⟩⟩
  have FA : Aside0 (∀ W, Calls Try.prog 29 #[.int .i64 kd, .bool true] W fun e w' => e = .returned (.int .i64 (rfaultW kd 1)) ∧ KpN W w') := ⟨fun W => by
    rw [← fault_eq1]; exact (fault_c kd true W).mono fun _ _ q => ⟨q.1, q.2 ▸ Kp.refl _ _⟩⟩
  have FR : Aside0 (∀ W, Calls Try.prog 30 #[.int .i64 kd, .int .i64 1] W fun e w' => e = .returned (.int .i64 (rfaultW kd 1)) ∧ KpN W w') := ⟨fun W => fault_r1 kd W⟩
  have CR : Aside0 (∀ W, Calls Try.prog 31 #[.int .i64 kd] W fun e w' => e = .returned (.int .i64 (rfaultW kd 2)) ∧ KpN W w') := ⟨fun W => by
    rw [← crooked_eq]; exact (crooked_c kd W).mono fun _ _ q => ⟨q.1, q.2 ▸ Kp.refl _ _⟩⟩
  have F2 : Aside0 (∀ W, Calls Try.prog 30 #[.int .i64 kd, .int .i64 2] W fun e w' => e = .returned (.int .i64 (rfaultW kd 2)) ∧ KpN W w') := ⟨fun W => fault_r2 kd W⟩
  rw [h21] at J21
  rw [h20] at J20
  generalize rfaultW kd 2 = fv2 at CR F2
  generalize rfaultW kd 1 = fv1 at FA FR
  have HmR := Aside0.mk hmR
  clear hm hmR hm0 hS0 hRR0 hRel e1 h21 h20
  go_enter Try.func8, Try.ntmps8
  go_wp2_with (first
    | ((with_reducible refine gate_dst (N := 3) rfl ?_); refine bx_ev rfl rfl (N := 3) rfl (startC m A xs.length c (l : Int)) rfl ?_; intro g hg_g w1 hb_g hk_g; have Hg_g := Aside0.mk hg_g; clear hg_g)
    | (go_at_call 9; refine (awake9_c _).mono ?_; rintro e w2 ⟨rfl, hk2⟩; have hG2 := (Bk.mk hb_g).kp hk2 (fun h => h); have hC2 : Kd.C k68 w2 A xs.length xs := Kd.C_below hC ((hk_g.trans hk2).below (fun _ _ h => h.elim) (Nat.le_refl _)))
    | ((with_reducible refine gate_dst (N := 15) rfl ?_); refine wpList_load_row rfl 25 _ rfl g rfl _ (startC m A xs.length c (l : Int)) (0, 0) _ (hG2.blk) Try.underlying25 rfl infoS ?_)
    | (go_at_call 10; refine ((By.out _ hC2)).mono ?_; rintro e w3 ⟨rfl, hk3⟩)
    | ((with_reducible refine gate_dst (N := 7) rfl ?_); refine al_ev rfl rfl (N := 7) rfl _ (zeroF _) ?_; intro f hg_f w4 hb_f hk_f; have Hg_f := Aside0.mk hg_f; clear hg_f)
    | ((with_reducible refine gate_dst (N := 8) rfl ?_); refine al_ev rfl rfl (N := 8) rfl _ (zeroR _) ?_; intro p hg_p w5 hb_p hk_p; have Hg_p := Aside0.mk hg_p; clear hg_p)
    | (((with_reducible refine gate_store (t := 31) (p := 7) rfl ?_); refine st_ev rfl rfl rfl f (S.cells) _ _ rfl rfl (((Bk.mk hb_f).kp hk_p (fun h => h)).blk) infoF rfl (VS.one _) ?_; intro w6 hs_w6 ks_w6); have hpf : p ≠ f := (by have := Hg_p.out; have := blk_lt hb_f; omega); have hP6 := (Bk.mk hb_p).kp ks_w6 hpf)
    | (((with_reducible refine gate_store (t := 34) (p := 8) rfl ?_); refine st_ev rfl rfl rfl p (R.cells) _ _ rfl rfl (hP6.blk) infoR rfl (VS.one _) ?_; intro w7 hs_w7 ks_w7); have hI : St FT w7 f S := (St.mk hs_w6).kp ks_w7 (fun e : f = p => hpf e.symm); have hP : St RT w7 p R := St.mk hs_w7; have hfw : w.heap.size ≤ f := (by have := Hg_f.out; have := ((hk_g.trans hk2).trans hk3).size; omega); have hpw : w.heap.size ≤ p := (by have := Hg_p.out; have := (((hk_g.trans hk2).trans hk3).trans hk_f).size; omega); have K7 : KpN w w7 := ((((((hk_g.trans hk2).trans hk3).trans hk_f).trans hk_p).then ks_w6 fun i hi (e : i = f) => by omega).then ks_w7 fun i hi (e : i = p) => by omega); clear hb_g hk_g Hg_g hk2 hG2 hC2 hk3 hb_f hk_f Hg_f hb_p hk_p Hg_p hs_w6 ks_w6 hP6 hs_w7 ks_w7))
  have hnew := heap_alloc_new w7 (.cells #[.int .i64 8, .int .i64 9, .int .i64 0, .int .i64 11] 3)
  have hq := hI.lt
  have hp_ := hP.lt
  have hI8 : St FT (w7.alloc (.cells #[.int .i64 8, .int .i64 9, .int .i64 0, .int .i64 11] 3)) f S := hI.alloc _
  have hP8 : St RT (w7.alloc (.cells #[.int .i64 8, .int .i64 9, .int .i64 0, .int .i64 11] 3)) p R := hP.alloc _
  have K8 : KpN w (w7.alloc (.cells #[.int .i64 8, .int .i64 9, .int .i64 0, .int .i64 11] 3)) := K7.alloc _
  have hL8 : Bk (w7.alloc (.cells #[.int .i64 8, .int .i64 9, .int .i64 0, .int .i64 11] 3)) w7.heap.size #[.int .i64 8, .int .i64 9, .int .i64 0, .int .i64 11] 3 := ⟨hnew⟩
  generalize w7.alloc (.cells #[.int .i64 8, .int .i64 9, .int .i64 0, .int .i64 11] 3) = w8 at hI8 hP8 K8 hL8 ⊢
  generalize w7.heap.size = qb at hL8 ⊢
  clear hnew hq hp_ hI hP K7
  have cMW := rg_calls (w := w8) fun W hW => MW.out f W (hI8.kp hW (fun h => h))
  have cMF := rg_calls (w := w8) fun W hW => MF.out f W (hI8.kp hW (fun h => h))
  have cCL := rg_calls (w := w8) fun W hW => CL.out f W (hI8.kp hW (fun h => h))
  have cJ1 := rg_calls (w := w8) fun W _ => J21.out W
  have cJ0 := rg_calls (w := w8) fun W _ => J20.out W
  have cFA := rg_calls (w := w8) fun W _ => FA.out W
  have cFR := rg_calls (w := w8) fun W _ => FR.out W
  have cCR := rg_calls (w := w8) fun W _ => CR.out W
  have cF2 := rg_calls (w := w8) fun W _ => F2.out W
  have kR : ∀ W, Rg w8 W → W.heap[p]? = some (.cells R.cells 34 (0, 0)) := fun W h => (hP8.kp h.kp (fun h => h)).blk
  have KR := Aside0.mk kR
  have c0 := hP8.c0
  rw [HmR.out] at c0
  have k0 := cell_regrown c0
  have k1 := cell_regrown (show w8.cell? ⟨qb, 0, none⟩ = some (.int .i64 8) from hL8.c 0)
  clear kR c0
  refine wp_region_quiet_below (by kernel_rfl) (by kernel_rfl) ?_
  repeat (quiet_step (first | with_reducible exact cMW _ _ | with_reducible exact cMF _ _ | with_reducible exact cCL _ _ | with_reducible exact cJ1 _ _ | with_reducible exact cJ0 _ _ | with_reducible exact cFA _ _ | with_reducible exact cFR _ _ | with_reducible exact cCR _ _ | with_reducible exact cF2 _ _))
  refine wpQuiet_ld (C := Rg w8) (by rfl) rfl p rfl 34 R.cells _ KR.out rfl rfl rfl ?_
  repeat (quiet_step (first | with_reducible exact cMW _ _ | with_reducible exact cMF _ _ | with_reducible exact cCL _ _ | with_reducible exact cJ1 _ _ | with_reducible exact cJ0 _ _ | with_reducible exact cFA _ _ | with_reducible exact cFR _ _ | with_reducible exact cCR _ _ | with_reducible exact cF2 _ _))
  refine wpQuiet_nil ?_
  intro w9 hw9
  replace hw9 : Rg w8 w9 := hw9
  have K9 := K8.trans hw9.kp
  go_wp2
  go_ret
  exact ⟨rfl, K9.below (fun _ _ h => h.elim) (Nat.le_refl _)⟩
set_option maxHeartbeats 8000000 in
set_option maxRecDepth 100000 in
theorem task0q_no (m : Int) (A : Option Addr) (c : Nat) (l : Nat) (xs : List WR) (kd : Int) (w : World) (hC : Kd.C k68 w A xs.length xs) (hb : ¬ bgOk m xs.length) :
    Calls Try.prog 8 #[.agg (startC m A xs.length c (l : Int)), .int .i64 kd, .bool false] w fun e w' => e = .returned (.bool true) ∧ Below w.heap.size w w' := by
  have Hb := Aside0.mk hb
  clear hb
  go_enter Try.func8, Try.ntmps8
  go_wp2_with (first
    | ((with_reducible refine gate_dst (N := 3) rfl ?_); refine bx_ev rfl rfl (N := 3) rfl (startC m A xs.length c (l : Int)) rfl ?_; intro g hg_g w1 hb_g hk_g; have Hg_g := Aside0.mk hg_g; clear hg_g)
    | (go_at_call 9; refine (awake9_c _).mono ?_; rintro e w2 ⟨rfl, hk2⟩; have hG2 := (Bk.mk hb_g).kp hk2 (fun h => h); have hC2 : Kd.C k68 w2 A xs.length xs := Kd.C_below hC ((hk_g.trans hk2).below (fun _ _ h => h.elim) (Nat.le_refl _)))
    | ((with_reducible refine gate_dst (N := 15) rfl ?_); refine wpList_load_row rfl 25 _ rfl g rfl _ (startC m A xs.length c (l : Int)) (0, 0) _ (hG2.blk) Try.underlying25 rfl infoS ?_)
    | (go_at_call 10; refine ((begun_no m A c l xs _ Hb.out)).mono ?_; rintro e w3 ⟨rfl, hk3⟩)
    | ((with_reducible refine gate_dst (N := 7) rfl ?_); refine al_ev rfl rfl (N := 7) rfl _ (zeroF _) ?_; intro f hg_f w4 hb_f hk_f; have Hg_f := Aside0.mk hg_f; clear hg_f)
    | ((with_reducible refine gate_dst (N := 8) rfl ?_); refine al_ev rfl rfl (N := 8) rfl _ (zeroR _) ?_; intro p hg_p w5 hb_p hk_p; have Hg_p := Aside0.mk hg_p; clear hg_p)
    | (((with_reducible refine gate_store (t := 31) (p := 7) rfl ?_); refine st_ev rfl rfl rfl f (vs0.cells) _ _ rfl rfl (((Bk.mk hb_f).kp hk_p (fun h => h)).blk) infoF rfl (VS.one _) ?_; intro w6 hs_w6 ks_w6); have hpf : p ≠ f := (by have := Hg_p.out; have := blk_lt hb_f; omega); have hP6 := (Bk.mk hb_p).kp ks_w6 hpf)
    | (((with_reducible refine gate_store (t := 34) (p := 8) rfl ?_); refine st_ev rfl rfl rfl p (vs0.cells) _ _ rfl rfl (hP6.blk) infoR rfl (VS.one _) ?_; intro w7 hs_w7 ks_w7); have hI : St FT w7 f vs0 := (St.mk hs_w6).kp ks_w7 (fun e : f = p => hpf e.symm); have hP : St RT w7 p vs0 := St.mk hs_w7; have hfw : w.heap.size ≤ f := (by have := Hg_f.out; have := ((hk_g.trans hk2).trans hk3).size; omega); have hpw : w.heap.size ≤ p := (by have := Hg_p.out; have := (((hk_g.trans hk2).trans hk3).trans hk_f).size; omega); have K7 : KpN w w7 := ((((((hk_g.trans hk2).trans hk3).trans hk_f).trans hk_p).then ks_w6 fun i hi (e : i = f) => by omega).then ks_w7 fun i hi (e : i = p) => by omega); clear hb_g hk_g Hg_g hk2 hG2 hC2 hk3 hb_f hk_f Hg_f hb_p hk_p Hg_p hs_w6 ks_w6 hP6 hs_w7 ks_w7))
  go_ret
  exact ⟨rfl, K7.below (fun _ _ h => h.elim) (Nat.le_refl _)⟩
set_option maxHeartbeats 8000000 in
set_option maxRecDepth 100000 in
theorem task0q_yes (m : Int) (A : Option Addr) (c : Nat) (l : Nat) (xs : List WR) (kd : Int) (w : World) (hC : Kd.C k68 w A xs.length xs) (hx : wrOk xs) (hl : U l) (hb : bgOk m xs.length) (hm0 : ∀ S : VS, bgF m xs l = S → S.m = 0) :
    Calls Try.prog 8 #[.agg (startC m A xs.length c (l : Int)), .int .i64 kd, .bool false] w fun e w' => e = .returned (.bool true) ∧ Below w.heap.size w w' := by
  have Hb := Aside0.mk hb
  have hRel := Rel.bg hx m l
  have hF : (bgF m xs l).ok := bgF_ok hx hl m
  have hR : (bgR m xs l).ok := bgR_ok hx hl m
  obtain ⟨S, hS⟩ : ∃ S, bgF m xs l = S := ⟨_, rfl⟩
  obtain ⟨R, hRR⟩ : ∃ R, bgR m xs l = R := ⟨_, rfl⟩
  have hmS : S.m = m := by rw [← hS]; rfl
  rw [hS] at hF hRel
  rw [hRR] at hR hRel
  have by_ := fun w hC => begun_yes m A c l xs w Hb.out hC hx hl
  rw [hS, hRR] at by_
  have By := Aside0.mk by_
  have HmS := Aside0.mk hmS
  have hS0 := hS
  have hRR0 := hRR
  clear by_ hS hRR hb hmS
  have hm := hm0 S hS0
  have hmR : R.m = 0 := hRel.m ▸ hm
  have e1 : S.r 1 = R.r 1 := hRel.r1
  have J21 : Aside0 (∀ W, Calls Try.prog 26 #[.agg R.cells, .int .i64 21] W fun e w' => e = .returned (.bool (bitW (S.r 1) 21)) ∧ KpN W w') := ⟨fun W => by rw [e1]; exact is_r R 21 W hR⟩
  have J20 : Aside0 (∀ W, Calls Try.prog 26 #[.agg R.cells, .int .i64 20] W fun e w' => e = .returned (.bool (bitW (S.r 1) 20)) ∧ KpN W w') := ⟨fun W => by rw [e1]; exact is_r R 20 W hR⟩
  obtain ⟨b21, h21⟩ : ∃ b, bitW (S.r 1) 21 = b := ⟨_, rfl⟩
  obtain ⟨b20, h20⟩ : ∃ b, bitW (S.r 1) 20 = b := ⟨_, rfl⟩
  have MW : Aside0 (∀ (g : Nat) W, St FT W g S → Calls Try.prog 25 #[.pointer (some ⟨g, 0, none⟩)] W fun e w' => e = .returned (.bool (!b21)) ∧ KpN W w') := ⟨fun g W h => by
    have := wait_c g S W h hF; rw [hm, h21] at this; exact this.mono fun _ _ q => ⟨q.1, by obtain ⟨k, hk⟩ := q.2; rw [hk]; exact (Kp.refl _ _).drewN _⟩⟩
  have MF : Aside0 (∀ (g : Nat) W, St FT W g S → Calls Try.prog 27 #[.pointer (some ⟨g, 0, none⟩)] W fun e w' => e = .returned (.bool (false)) ∧ KpN W w') := ⟨fun g W h => by
    have := fence_c g S W h hF; rw [hm, h20] at this; exact this.mono fun _ _ q => ⟨q.1, by obtain ⟨k, hk⟩ := q.2; rw [hk]; exact (Kp.refl _ _).drewN _⟩⟩
  have CL : Aside0 (∀ (g : Nat) W, St FT W g S → Calls Try.prog 28 #[.pointer (some ⟨g, 0, none⟩)] W fun e w' => e = .returned (.int .i64 8) ∧ KpN W w') := ⟨fun g W h => by
    have := call_c g S W h; rw [hm] at this; exact this.mono fun _ _ q => ⟨q.1, q.2 ▸ Kp.refl _ _⟩⟩
  have FA : Aside0 (∀ W, Calls Try.prog 29 #[.int .i64 kd, .bool false] W fun e w' => e = .returned (.int .i64 (rfaultW kd 0)) ∧ KpN W w') := ⟨fun W => by
    rw [← fault_eq0]; exact (fault_c kd false W).mono fun _ _ q => ⟨q.1, q.2 ▸ Kp.refl _ _⟩⟩
  have FR : Aside0 (∀ W, Calls Try.prog 30 #[.int .i64 kd, .int .i64 0] W fun e w' => e = .returned (.int .i64 (rfaultW kd 0)) ∧ KpN W w') := ⟨fun W => fault_r0 kd W⟩
  have CR : Aside0 (∀ W, Calls Try.prog 31 #[.int .i64 kd] W fun e w' => e = .returned (.int .i64 (rfaultW kd 2)) ∧ KpN W w') := ⟨fun W => by
    rw [← crooked_eq]; exact (crooked_c kd W).mono fun _ _ q => ⟨q.1, q.2 ▸ Kp.refl _ _⟩⟩
  have F2 : Aside0 (∀ W, Calls Try.prog 30 #[.int .i64 kd, .int .i64 2] W fun e w' => e = .returned (.int .i64 (rfaultW kd 2)) ∧ KpN W w') := ⟨fun W => fault_r2 kd W⟩
  rw [h21] at J21
  rw [h20] at J20
  generalize rfaultW kd 2 = fv2 at CR F2
  generalize rfaultW kd 0 = fv1 at FA FR
  have HmR := Aside0.mk hmR
  clear hm hmR hm0 hS0 hRR0 hRel e1 h21 h20
  go_enter Try.func8, Try.ntmps8
  go_wp2_with (first
    | ((with_reducible refine gate_dst (N := 3) rfl ?_); refine bx_ev rfl rfl (N := 3) rfl (startC m A xs.length c (l : Int)) rfl ?_; intro g hg_g w1 hb_g hk_g; have Hg_g := Aside0.mk hg_g; clear hg_g)
    | (go_at_call 9; refine (awake9_c _).mono ?_; rintro e w2 ⟨rfl, hk2⟩; have hG2 := (Bk.mk hb_g).kp hk2 (fun h => h); have hC2 : Kd.C k68 w2 A xs.length xs := Kd.C_below hC ((hk_g.trans hk2).below (fun _ _ h => h.elim) (Nat.le_refl _)))
    | ((with_reducible refine gate_dst (N := 15) rfl ?_); refine wpList_load_row rfl 25 _ rfl g rfl _ (startC m A xs.length c (l : Int)) (0, 0) _ (hG2.blk) Try.underlying25 rfl infoS ?_)
    | (go_at_call 10; refine ((By.out _ hC2)).mono ?_; rintro e w3 ⟨rfl, hk3⟩)
    | ((with_reducible refine gate_dst (N := 7) rfl ?_); refine al_ev rfl rfl (N := 7) rfl _ (zeroF _) ?_; intro f hg_f w4 hb_f hk_f; have Hg_f := Aside0.mk hg_f; clear hg_f)
    | ((with_reducible refine gate_dst (N := 8) rfl ?_); refine al_ev rfl rfl (N := 8) rfl _ (zeroR _) ?_; intro p hg_p w5 hb_p hk_p; have Hg_p := Aside0.mk hg_p; clear hg_p)
    | (((with_reducible refine gate_store (t := 31) (p := 7) rfl ?_); refine st_ev rfl rfl rfl f (S.cells) _ _ rfl rfl (((Bk.mk hb_f).kp hk_p (fun h => h)).blk) infoF rfl (VS.one _) ?_; intro w6 hs_w6 ks_w6); have hpf : p ≠ f := (by have := Hg_p.out; have := blk_lt hb_f; omega); have hP6 := (Bk.mk hb_p).kp ks_w6 hpf)
    | (((with_reducible refine gate_store (t := 34) (p := 8) rfl ?_); refine st_ev rfl rfl rfl p (R.cells) _ _ rfl rfl (hP6.blk) infoR rfl (VS.one _) ?_; intro w7 hs_w7 ks_w7); have hI : St FT w7 f S := (St.mk hs_w6).kp ks_w7 (fun e : f = p => hpf e.symm); have hP : St RT w7 p R := St.mk hs_w7; have hfw : w.heap.size ≤ f := (by have := Hg_f.out; have := ((hk_g.trans hk2).trans hk3).size; omega); have hpw : w.heap.size ≤ p := (by have := Hg_p.out; have := (((hk_g.trans hk2).trans hk3).trans hk_f).size; omega); have K7 : KpN w w7 := ((((((hk_g.trans hk2).trans hk3).trans hk_f).trans hk_p).then ks_w6 fun i hi (e : i = f) => by omega).then ks_w7 fun i hi (e : i = p) => by omega); clear hb_g hk_g Hg_g hk2 hG2 hC2 hk3 hb_f hk_f Hg_f hb_p hk_p Hg_p hs_w6 ks_w6 hP6 hs_w7 ks_w7))
  have hnew := heap_alloc_new w7 (.cells #[.int .i64 8, .int .i64 9, .int .i64 0, .int .i64 11] 3)
  have hq := hI.lt
  have hp_ := hP.lt
  have hI8 : St FT (w7.alloc (.cells #[.int .i64 8, .int .i64 9, .int .i64 0, .int .i64 11] 3)) f S := hI.alloc _
  have hP8 : St RT (w7.alloc (.cells #[.int .i64 8, .int .i64 9, .int .i64 0, .int .i64 11] 3)) p R := hP.alloc _
  have K8 : KpN w (w7.alloc (.cells #[.int .i64 8, .int .i64 9, .int .i64 0, .int .i64 11] 3)) := K7.alloc _
  have hL8 : Bk (w7.alloc (.cells #[.int .i64 8, .int .i64 9, .int .i64 0, .int .i64 11] 3)) w7.heap.size #[.int .i64 8, .int .i64 9, .int .i64 0, .int .i64 11] 3 := ⟨hnew⟩
  generalize w7.alloc (.cells #[.int .i64 8, .int .i64 9, .int .i64 0, .int .i64 11] 3) = w8 at hI8 hP8 K8 hL8 ⊢
  generalize w7.heap.size = qb at hL8 ⊢
  clear hnew hq hp_ hI hP K7
  have cMW := rg_calls (w := w8) fun W hW => MW.out f W (hI8.kp hW (fun h => h))
  have cMF := rg_calls (w := w8) fun W hW => MF.out f W (hI8.kp hW (fun h => h))
  have cCL := rg_calls (w := w8) fun W hW => CL.out f W (hI8.kp hW (fun h => h))
  have cJ1 := rg_calls (w := w8) fun W _ => J21.out W
  have cJ0 := rg_calls (w := w8) fun W _ => J20.out W
  have cFA := rg_calls (w := w8) fun W _ => FA.out W
  have cFR := rg_calls (w := w8) fun W _ => FR.out W
  have cCR := rg_calls (w := w8) fun W _ => CR.out W
  have cF2 := rg_calls (w := w8) fun W _ => F2.out W
  have kR : ∀ W, Rg w8 W → W.heap[p]? = some (.cells R.cells 34 (0, 0)) := fun W h => (hP8.kp h.kp (fun h => h)).blk
  have KR := Aside0.mk kR
  have c0 := hP8.c0
  rw [HmR.out] at c0
  have k0 := cell_regrown c0
  have k1 := cell_regrown (show w8.cell? ⟨qb, 0, none⟩ = some (.int .i64 8) from hL8.c 0)
  clear kR c0
  refine wp_region_quiet_below (by kernel_rfl) (by kernel_rfl) ?_
  repeat (quiet_step (first | with_reducible exact cMW _ _ | with_reducible exact cMF _ _ | with_reducible exact cCL _ _ | with_reducible exact cJ1 _ _ | with_reducible exact cJ0 _ _ | with_reducible exact cFA _ _ | with_reducible exact cFR _ _ | with_reducible exact cCR _ _ | with_reducible exact cF2 _ _))
  refine wpQuiet_ld (C := Rg w8) (by rfl) rfl p rfl 34 R.cells _ KR.out rfl rfl rfl ?_
  repeat (quiet_step (first | with_reducible exact cMW _ _ | with_reducible exact cMF _ _ | with_reducible exact cCL _ _ | with_reducible exact cJ1 _ _ | with_reducible exact cJ0 _ _ | with_reducible exact cFA _ _ | with_reducible exact cFR _ _ | with_reducible exact cCR _ _ | with_reducible exact cF2 _ _))
  refine wpQuiet_nil ?_
  intro w9 hw9
  replace hw9 : Rg w8 w9 := hw9
  have K9 := K8.trans hw9.kp
  go_wp2
  go_ret
  exact ⟨rfl, K9.below (fun _ _ h => h.elim) (Nat.le_refl _)⟩
set_option maxHeartbeats 8000000 in
set_option maxRecDepth 100000 in
theorem task1p_yes (m : Int) (A : Option Addr) (c : Nat) (l : Nat) (xs : List WR) (kd : Int) (w : World) (hC : Kd.C k68 w A xs.length xs) (hx : wrOk xs) (hl : U l) (hb : bgOk m xs.length) (hm0 : ∀ S : VS, bgF m xs l = S → S.m = 1) :
    Calls Try.prog 8 #[.agg (startC m A xs.length c (l : Int)), .int .i64 kd, .bool true] w fun e w' => e = .returned (.bool true) ∧ Below w.heap.size w w' := by
  have Hb := Aside0.mk hb
  have hRel := Rel.bg hx m l
  have hF : (bgF m xs l).ok := bgF_ok hx hl m
  have hR : (bgR m xs l).ok := bgR_ok hx hl m
  obtain ⟨S, hS⟩ : ∃ S, bgF m xs l = S := ⟨_, rfl⟩
  obtain ⟨R, hRR⟩ : ∃ R, bgR m xs l = R := ⟨_, rfl⟩
  have hmS : S.m = m := by rw [← hS]; rfl
  rw [hS] at hF hRel
  rw [hRR] at hR hRel
  have by_ := fun w hC => begun_yes m A c l xs w Hb.out hC hx hl
  rw [hS, hRR] at by_
  have By := Aside0.mk by_
  have HmS := Aside0.mk hmS
  have hS0 := hS
  have hRR0 := hRR
  clear by_ hS hRR hb hmS
  have hm := hm0 S hS0
  have hmR : R.m = 1 := hRel.m ▸ hm
  have e1 : S.r 1 = R.r 1 := hRel.r1
  have J21 : Aside0 (∀ W, Calls Try.prog 26 #[.agg R.cells, .int .i64 21] W fun e w' => e = .returned (.bool (bitW (S.r 1) 21)) ∧ KpN W w') := ⟨fun W => by rw [e1]; exact is_r R 21 W hR⟩
  have J20 : Aside0 (∀ W, Calls Try.prog 26 #[.agg R.cells, .int .i64 20] W fun e w' => e = .returned (.bool (bitW (S.r 1) 20)) ∧ KpN W w') := ⟨fun W => by rw [e1]; exact is_r R 20 W hR⟩
  obtain ⟨b21, h21⟩ : ∃ b, bitW (S.r 1) 21 = b := ⟨_, rfl⟩
  obtain ⟨b20, h20⟩ : ∃ b, bitW (S.r 1) 20 = b := ⟨_, rfl⟩
  have MW : Aside0 (∀ (g : Nat) W, St FT W g S → Calls Try.prog 25 #[.pointer (some ⟨g, 0, none⟩)] W fun e w' => e = .returned (.bool (!b21)) ∧ KpN W w') := ⟨fun g W h => by
    have := wait_c g S W h hF; rw [hm, h21] at this; exact this.mono fun _ _ q => ⟨q.1, by obtain ⟨k, hk⟩ := q.2; rw [hk]; exact (Kp.refl _ _).drewN _⟩⟩
  have MF : Aside0 (∀ (g : Nat) W, St FT W g S → Calls Try.prog 27 #[.pointer (some ⟨g, 0, none⟩)] W fun e w' => e = .returned (.bool (!b20)) ∧ KpN W w') := ⟨fun g W h => by
    have := fence_c g S W h hF; rw [hm, h20] at this; exact this.mono fun _ _ q => ⟨q.1, by obtain ⟨k, hk⟩ := q.2; rw [hk]; exact (Kp.refl _ _).drewN _⟩⟩
  have CL : Aside0 (∀ (g : Nat) W, St FT W g S → Calls Try.prog 28 #[.pointer (some ⟨g, 0, none⟩)] W fun e w' => e = .returned (.int .i64 9) ∧ KpN W w') := ⟨fun g W h => by
    have := call_c g S W h; rw [hm] at this; exact this.mono fun _ _ q => ⟨q.1, q.2 ▸ Kp.refl _ _⟩⟩
  have FA : Aside0 (∀ W, Calls Try.prog 29 #[.int .i64 kd, .bool true] W fun e w' => e = .returned (.int .i64 (rfaultW kd 1)) ∧ KpN W w') := ⟨fun W => by
    rw [← fault_eq1]; exact (fault_c kd true W).mono fun _ _ q => ⟨q.1, q.2 ▸ Kp.refl _ _⟩⟩
  have FR : Aside0 (∀ W, Calls Try.prog 30 #[.int .i64 kd, .int .i64 1] W fun e w' => e = .returned (.int .i64 (rfaultW kd 1)) ∧ KpN W w') := ⟨fun W => fault_r1 kd W⟩
  have CR : Aside0 (∀ W, Calls Try.prog 31 #[.int .i64 kd] W fun e w' => e = .returned (.int .i64 (rfaultW kd 2)) ∧ KpN W w') := ⟨fun W => by
    rw [← crooked_eq]; exact (crooked_c kd W).mono fun _ _ q => ⟨q.1, q.2 ▸ Kp.refl _ _⟩⟩
  have F2 : Aside0 (∀ W, Calls Try.prog 30 #[.int .i64 kd, .int .i64 2] W fun e w' => e = .returned (.int .i64 (rfaultW kd 2)) ∧ KpN W w') := ⟨fun W => fault_r2 kd W⟩
  rw [h21] at J21
  rw [h20] at J20
  generalize rfaultW kd 2 = fv2 at CR F2
  generalize rfaultW kd 1 = fv1 at FA FR
  have HmR := Aside0.mk hmR
  clear hm hmR hm0 hS0 hRR0 hRel e1 h21 h20
  go_enter Try.func8, Try.ntmps8
  go_wp2_with (first
    | ((with_reducible refine gate_dst (N := 3) rfl ?_); refine bx_ev rfl rfl (N := 3) rfl (startC m A xs.length c (l : Int)) rfl ?_; intro g hg_g w1 hb_g hk_g; have Hg_g := Aside0.mk hg_g; clear hg_g)
    | (go_at_call 9; refine (awake9_c _).mono ?_; rintro e w2 ⟨rfl, hk2⟩; have hG2 := (Bk.mk hb_g).kp hk2 (fun h => h); have hC2 : Kd.C k68 w2 A xs.length xs := Kd.C_below hC ((hk_g.trans hk2).below (fun _ _ h => h.elim) (Nat.le_refl _)))
    | ((with_reducible refine gate_dst (N := 15) rfl ?_); refine wpList_load_row rfl 25 _ rfl g rfl _ (startC m A xs.length c (l : Int)) (0, 0) _ (hG2.blk) Try.underlying25 rfl infoS ?_)
    | (go_at_call 10; refine ((By.out _ hC2)).mono ?_; rintro e w3 ⟨rfl, hk3⟩)
    | ((with_reducible refine gate_dst (N := 7) rfl ?_); refine al_ev rfl rfl (N := 7) rfl _ (zeroF _) ?_; intro f hg_f w4 hb_f hk_f; have Hg_f := Aside0.mk hg_f; clear hg_f)
    | ((with_reducible refine gate_dst (N := 8) rfl ?_); refine al_ev rfl rfl (N := 8) rfl _ (zeroR _) ?_; intro p hg_p w5 hb_p hk_p; have Hg_p := Aside0.mk hg_p; clear hg_p)
    | (((with_reducible refine gate_store (t := 31) (p := 7) rfl ?_); refine st_ev rfl rfl rfl f (S.cells) _ _ rfl rfl (((Bk.mk hb_f).kp hk_p (fun h => h)).blk) infoF rfl (VS.one _) ?_; intro w6 hs_w6 ks_w6); have hpf : p ≠ f := (by have := Hg_p.out; have := blk_lt hb_f; omega); have hP6 := (Bk.mk hb_p).kp ks_w6 hpf)
    | (((with_reducible refine gate_store (t := 34) (p := 8) rfl ?_); refine st_ev rfl rfl rfl p (R.cells) _ _ rfl rfl (hP6.blk) infoR rfl (VS.one _) ?_; intro w7 hs_w7 ks_w7); have hI : St FT w7 f S := (St.mk hs_w6).kp ks_w7 (fun e : f = p => hpf e.symm); have hP : St RT w7 p R := St.mk hs_w7; have hfw : w.heap.size ≤ f := (by have := Hg_f.out; have := ((hk_g.trans hk2).trans hk3).size; omega); have hpw : w.heap.size ≤ p := (by have := Hg_p.out; have := (((hk_g.trans hk2).trans hk3).trans hk_f).size; omega); have K7 : KpN w w7 := ((((((hk_g.trans hk2).trans hk3).trans hk_f).trans hk_p).then ks_w6 fun i hi (e : i = f) => by omega).then ks_w7 fun i hi (e : i = p) => by omega); clear hb_g hk_g Hg_g hk2 hG2 hC2 hk3 hb_f hk_f Hg_f hb_p hk_p Hg_p hs_w6 ks_w6 hP6 hs_w7 ks_w7))
  have hnew := heap_alloc_new w7 (.cells #[.int .i64 8, .int .i64 9, .int .i64 0, .int .i64 11] 3)
  have hq := hI.lt
  have hp_ := hP.lt
  have hI8 : St FT (w7.alloc (.cells #[.int .i64 8, .int .i64 9, .int .i64 0, .int .i64 11] 3)) f S := hI.alloc _
  have hP8 : St RT (w7.alloc (.cells #[.int .i64 8, .int .i64 9, .int .i64 0, .int .i64 11] 3)) p R := hP.alloc _
  have K8 : KpN w (w7.alloc (.cells #[.int .i64 8, .int .i64 9, .int .i64 0, .int .i64 11] 3)) := K7.alloc _
  have hL8 : Bk (w7.alloc (.cells #[.int .i64 8, .int .i64 9, .int .i64 0, .int .i64 11] 3)) w7.heap.size #[.int .i64 8, .int .i64 9, .int .i64 0, .int .i64 11] 3 := ⟨hnew⟩
  generalize w7.alloc (.cells #[.int .i64 8, .int .i64 9, .int .i64 0, .int .i64 11] 3) = w8 at hI8 hP8 K8 hL8 ⊢
  generalize w7.heap.size = qb at hL8 ⊢
  clear hnew hq hp_ hI hP K7
  have cMW := rg_calls (w := w8) fun W hW => MW.out f W (hI8.kp hW (fun h => h))
  have cMF := rg_calls (w := w8) fun W hW => MF.out f W (hI8.kp hW (fun h => h))
  have cCL := rg_calls (w := w8) fun W hW => CL.out f W (hI8.kp hW (fun h => h))
  have cJ1 := rg_calls (w := w8) fun W _ => J21.out W
  have cJ0 := rg_calls (w := w8) fun W _ => J20.out W
  have cFA := rg_calls (w := w8) fun W _ => FA.out W
  have cFR := rg_calls (w := w8) fun W _ => FR.out W
  have cCR := rg_calls (w := w8) fun W _ => CR.out W
  have cF2 := rg_calls (w := w8) fun W _ => F2.out W
  have kR : ∀ W, Rg w8 W → W.heap[p]? = some (.cells R.cells 34 (0, 0)) := fun W h => (hP8.kp h.kp (fun h => h)).blk
  have KR := Aside0.mk kR
  have c0 := hP8.c0
  rw [HmR.out] at c0
  have k0 := cell_regrown c0
  have k1 := cell_regrown (show w8.cell? ⟨qb, 1, none⟩ = some (.int .i64 9) from hL8.c 1)
  clear kR c0
  refine wp_region_quiet_below (by kernel_rfl) (by kernel_rfl) ?_
  repeat (quiet_step (first | with_reducible exact cMW _ _ | with_reducible exact cMF _ _ | with_reducible exact cCL _ _ | with_reducible exact cJ1 _ _ | with_reducible exact cJ0 _ _ | with_reducible exact cFA _ _ | with_reducible exact cFR _ _ | with_reducible exact cCR _ _ | with_reducible exact cF2 _ _))
  refine wpQuiet_ld (C := Rg w8) (by rfl) rfl p rfl 34 R.cells _ KR.out rfl rfl rfl ?_
  repeat (quiet_step (first | with_reducible exact cMW _ _ | with_reducible exact cMF _ _ | with_reducible exact cCL _ _ | with_reducible exact cJ1 _ _ | with_reducible exact cJ0 _ _ | with_reducible exact cFA _ _ | with_reducible exact cFR _ _ | with_reducible exact cCR _ _ | with_reducible exact cF2 _ _))
  refine wpQuiet_ld (C := Rg w8) (by rfl) rfl p rfl 34 R.cells _ KR.out rfl rfl rfl ?_
  repeat (quiet_step (first | with_reducible exact cMW _ _ | with_reducible exact cMF _ _ | with_reducible exact cCL _ _ | with_reducible exact cJ1 _ _ | with_reducible exact cJ0 _ _ | with_reducible exact cFA _ _ | with_reducible exact cFR _ _ | with_reducible exact cCR _ _ | with_reducible exact cF2 _ _))
  refine wpQuiet_nil ?_
  intro w9 hw9
  replace hw9 : Rg w8 w9 := hw9
  have K9 := K8.trans hw9.kp
  go_wp2
  go_ret
  exact ⟨rfl, K9.below (fun _ _ h => h.elim) (Nat.le_refl _)⟩
set_option maxHeartbeats 8000000 in
set_option maxRecDepth 100000 in
theorem task1q_yes (m : Int) (A : Option Addr) (c : Nat) (l : Nat) (xs : List WR) (kd : Int) (w : World) (hC : Kd.C k68 w A xs.length xs) (hx : wrOk xs) (hl : U l) (hb : bgOk m xs.length) (hm0 : ∀ S : VS, bgF m xs l = S → S.m = 1) :
    Calls Try.prog 8 #[.agg (startC m A xs.length c (l : Int)), .int .i64 kd, .bool false] w fun e w' => e = .returned (.bool true) ∧ Below w.heap.size w w' := by
  have Hb := Aside0.mk hb
  have hRel := Rel.bg hx m l
  have hF : (bgF m xs l).ok := bgF_ok hx hl m
  have hR : (bgR m xs l).ok := bgR_ok hx hl m
  obtain ⟨S, hS⟩ : ∃ S, bgF m xs l = S := ⟨_, rfl⟩
  obtain ⟨R, hRR⟩ : ∃ R, bgR m xs l = R := ⟨_, rfl⟩
  have hmS : S.m = m := by rw [← hS]; rfl
  rw [hS] at hF hRel
  rw [hRR] at hR hRel
  have by_ := fun w hC => begun_yes m A c l xs w Hb.out hC hx hl
  rw [hS, hRR] at by_
  have By := Aside0.mk by_
  have HmS := Aside0.mk hmS
  have hS0 := hS
  have hRR0 := hRR
  clear by_ hS hRR hb hmS
  have hm := hm0 S hS0
  have hmR : R.m = 1 := hRel.m ▸ hm
  have e1 : S.r 1 = R.r 1 := hRel.r1
  have J21 : Aside0 (∀ W, Calls Try.prog 26 #[.agg R.cells, .int .i64 21] W fun e w' => e = .returned (.bool (bitW (S.r 1) 21)) ∧ KpN W w') := ⟨fun W => by rw [e1]; exact is_r R 21 W hR⟩
  have J20 : Aside0 (∀ W, Calls Try.prog 26 #[.agg R.cells, .int .i64 20] W fun e w' => e = .returned (.bool (bitW (S.r 1) 20)) ∧ KpN W w') := ⟨fun W => by rw [e1]; exact is_r R 20 W hR⟩
  obtain ⟨b21, h21⟩ : ∃ b, bitW (S.r 1) 21 = b := ⟨_, rfl⟩
  obtain ⟨b20, h20⟩ : ∃ b, bitW (S.r 1) 20 = b := ⟨_, rfl⟩
  have MW : Aside0 (∀ (g : Nat) W, St FT W g S → Calls Try.prog 25 #[.pointer (some ⟨g, 0, none⟩)] W fun e w' => e = .returned (.bool (!b21)) ∧ KpN W w') := ⟨fun g W h => by
    have := wait_c g S W h hF; rw [hm, h21] at this; exact this.mono fun _ _ q => ⟨q.1, by obtain ⟨k, hk⟩ := q.2; rw [hk]; exact (Kp.refl _ _).drewN _⟩⟩
  have MF : Aside0 (∀ (g : Nat) W, St FT W g S → Calls Try.prog 27 #[.pointer (some ⟨g, 0, none⟩)] W fun e w' => e = .returned (.bool (!b20)) ∧ KpN W w') := ⟨fun g W h => by
    have := fence_c g S W h hF; rw [hm, h20] at this; exact this.mono fun _ _ q => ⟨q.1, by obtain ⟨k, hk⟩ := q.2; rw [hk]; exact (Kp.refl _ _).drewN _⟩⟩
  have CL : Aside0 (∀ (g : Nat) W, St FT W g S → Calls Try.prog 28 #[.pointer (some ⟨g, 0, none⟩)] W fun e w' => e = .returned (.int .i64 9) ∧ KpN W w') := ⟨fun g W h => by
    have := call_c g S W h; rw [hm] at this; exact this.mono fun _ _ q => ⟨q.1, q.2 ▸ Kp.refl _ _⟩⟩
  have FA : Aside0 (∀ W, Calls Try.prog 29 #[.int .i64 kd, .bool false] W fun e w' => e = .returned (.int .i64 (rfaultW kd 0)) ∧ KpN W w') := ⟨fun W => by
    rw [← fault_eq0]; exact (fault_c kd false W).mono fun _ _ q => ⟨q.1, q.2 ▸ Kp.refl _ _⟩⟩
  have FR : Aside0 (∀ W, Calls Try.prog 30 #[.int .i64 kd, .int .i64 0] W fun e w' => e = .returned (.int .i64 (rfaultW kd 0)) ∧ KpN W w') := ⟨fun W => fault_r0 kd W⟩
  have CR : Aside0 (∀ W, Calls Try.prog 31 #[.int .i64 kd] W fun e w' => e = .returned (.int .i64 (rfaultW kd 2)) ∧ KpN W w') := ⟨fun W => by
    rw [← crooked_eq]; exact (crooked_c kd W).mono fun _ _ q => ⟨q.1, q.2 ▸ Kp.refl _ _⟩⟩
  have F2 : Aside0 (∀ W, Calls Try.prog 30 #[.int .i64 kd, .int .i64 2] W fun e w' => e = .returned (.int .i64 (rfaultW kd 2)) ∧ KpN W w') := ⟨fun W => fault_r2 kd W⟩
  rw [h21] at J21
  rw [h20] at J20
  generalize rfaultW kd 2 = fv2 at CR F2
  generalize rfaultW kd 0 = fv1 at FA FR
  have HmR := Aside0.mk hmR
  clear hm hmR hm0 hS0 hRR0 hRel e1 h21 h20
  go_enter Try.func8, Try.ntmps8
  go_wp2_with (first
    | ((with_reducible refine gate_dst (N := 3) rfl ?_); refine bx_ev rfl rfl (N := 3) rfl (startC m A xs.length c (l : Int)) rfl ?_; intro g hg_g w1 hb_g hk_g; have Hg_g := Aside0.mk hg_g; clear hg_g)
    | (go_at_call 9; refine (awake9_c _).mono ?_; rintro e w2 ⟨rfl, hk2⟩; have hG2 := (Bk.mk hb_g).kp hk2 (fun h => h); have hC2 : Kd.C k68 w2 A xs.length xs := Kd.C_below hC ((hk_g.trans hk2).below (fun _ _ h => h.elim) (Nat.le_refl _)))
    | ((with_reducible refine gate_dst (N := 15) rfl ?_); refine wpList_load_row rfl 25 _ rfl g rfl _ (startC m A xs.length c (l : Int)) (0, 0) _ (hG2.blk) Try.underlying25 rfl infoS ?_)
    | (go_at_call 10; refine ((By.out _ hC2)).mono ?_; rintro e w3 ⟨rfl, hk3⟩)
    | ((with_reducible refine gate_dst (N := 7) rfl ?_); refine al_ev rfl rfl (N := 7) rfl _ (zeroF _) ?_; intro f hg_f w4 hb_f hk_f; have Hg_f := Aside0.mk hg_f; clear hg_f)
    | ((with_reducible refine gate_dst (N := 8) rfl ?_); refine al_ev rfl rfl (N := 8) rfl _ (zeroR _) ?_; intro p hg_p w5 hb_p hk_p; have Hg_p := Aside0.mk hg_p; clear hg_p)
    | (((with_reducible refine gate_store (t := 31) (p := 7) rfl ?_); refine st_ev rfl rfl rfl f (S.cells) _ _ rfl rfl (((Bk.mk hb_f).kp hk_p (fun h => h)).blk) infoF rfl (VS.one _) ?_; intro w6 hs_w6 ks_w6); have hpf : p ≠ f := (by have := Hg_p.out; have := blk_lt hb_f; omega); have hP6 := (Bk.mk hb_p).kp ks_w6 hpf)
    | (((with_reducible refine gate_store (t := 34) (p := 8) rfl ?_); refine st_ev rfl rfl rfl p (R.cells) _ _ rfl rfl (hP6.blk) infoR rfl (VS.one _) ?_; intro w7 hs_w7 ks_w7); have hI : St FT w7 f S := (St.mk hs_w6).kp ks_w7 (fun e : f = p => hpf e.symm); have hP : St RT w7 p R := St.mk hs_w7; have hfw : w.heap.size ≤ f := (by have := Hg_f.out; have := ((hk_g.trans hk2).trans hk3).size; omega); have hpw : w.heap.size ≤ p := (by have := Hg_p.out; have := (((hk_g.trans hk2).trans hk3).trans hk_f).size; omega); have K7 : KpN w w7 := ((((((hk_g.trans hk2).trans hk3).trans hk_f).trans hk_p).then ks_w6 fun i hi (e : i = f) => by omega).then ks_w7 fun i hi (e : i = p) => by omega); clear hb_g hk_g Hg_g hk2 hG2 hC2 hk3 hb_f hk_f Hg_f hb_p hk_p Hg_p hs_w6 ks_w6 hP6 hs_w7 ks_w7))
  have hnew := heap_alloc_new w7 (.cells #[.int .i64 8, .int .i64 9, .int .i64 0, .int .i64 11] 3)
  have hq := hI.lt
  have hp_ := hP.lt
  have hI8 : St FT (w7.alloc (.cells #[.int .i64 8, .int .i64 9, .int .i64 0, .int .i64 11] 3)) f S := hI.alloc _
  have hP8 : St RT (w7.alloc (.cells #[.int .i64 8, .int .i64 9, .int .i64 0, .int .i64 11] 3)) p R := hP.alloc _
  have K8 : KpN w (w7.alloc (.cells #[.int .i64 8, .int .i64 9, .int .i64 0, .int .i64 11] 3)) := K7.alloc _
  have hL8 : Bk (w7.alloc (.cells #[.int .i64 8, .int .i64 9, .int .i64 0, .int .i64 11] 3)) w7.heap.size #[.int .i64 8, .int .i64 9, .int .i64 0, .int .i64 11] 3 := ⟨hnew⟩
  generalize w7.alloc (.cells #[.int .i64 8, .int .i64 9, .int .i64 0, .int .i64 11] 3) = w8 at hI8 hP8 K8 hL8 ⊢
  generalize w7.heap.size = qb at hL8 ⊢
  clear hnew hq hp_ hI hP K7
  have cMW := rg_calls (w := w8) fun W hW => MW.out f W (hI8.kp hW (fun h => h))
  have cMF := rg_calls (w := w8) fun W hW => MF.out f W (hI8.kp hW (fun h => h))
  have cCL := rg_calls (w := w8) fun W hW => CL.out f W (hI8.kp hW (fun h => h))
  have cJ1 := rg_calls (w := w8) fun W _ => J21.out W
  have cJ0 := rg_calls (w := w8) fun W _ => J20.out W
  have cFA := rg_calls (w := w8) fun W _ => FA.out W
  have cFR := rg_calls (w := w8) fun W _ => FR.out W
  have cCR := rg_calls (w := w8) fun W _ => CR.out W
  have cF2 := rg_calls (w := w8) fun W _ => F2.out W
  have kR : ∀ W, Rg w8 W → W.heap[p]? = some (.cells R.cells 34 (0, 0)) := fun W h => (hP8.kp h.kp (fun h => h)).blk
  have KR := Aside0.mk kR
  have c0 := hP8.c0
  rw [HmR.out] at c0
  have k0 := cell_regrown c0
  have k1 := cell_regrown (show w8.cell? ⟨qb, 1, none⟩ = some (.int .i64 9) from hL8.c 1)
  clear kR c0
  refine wp_region_quiet_below (by kernel_rfl) (by kernel_rfl) ?_
  repeat (quiet_step (first | with_reducible exact cMW _ _ | with_reducible exact cMF _ _ | with_reducible exact cCL _ _ | with_reducible exact cJ1 _ _ | with_reducible exact cJ0 _ _ | with_reducible exact cFA _ _ | with_reducible exact cFR _ _ | with_reducible exact cCR _ _ | with_reducible exact cF2 _ _))
  refine wpQuiet_ld (C := Rg w8) (by rfl) rfl p rfl 34 R.cells _ KR.out rfl rfl rfl ?_
  repeat (quiet_step (first | with_reducible exact cMW _ _ | with_reducible exact cMF _ _ | with_reducible exact cCL _ _ | with_reducible exact cJ1 _ _ | with_reducible exact cJ0 _ _ | with_reducible exact cFA _ _ | with_reducible exact cFR _ _ | with_reducible exact cCR _ _ | with_reducible exact cF2 _ _))
  refine wpQuiet_ld (C := Rg w8) (by rfl) rfl p rfl 34 R.cells _ KR.out rfl rfl rfl ?_
  repeat (quiet_step (first | with_reducible exact cMW _ _ | with_reducible exact cMF _ _ | with_reducible exact cCL _ _ | with_reducible exact cJ1 _ _ | with_reducible exact cJ0 _ _ | with_reducible exact cFA _ _ | with_reducible exact cFR _ _ | with_reducible exact cCR _ _ | with_reducible exact cF2 _ _))
  refine wpQuiet_nil ?_
  intro w9 hw9
  replace hw9 : Rg w8 w9 := hw9
  have K9 := K8.trans hw9.kp
  go_wp2
  go_ret
  exact ⟨rfl, K9.below (fun _ _ h => h.elim) (Nat.le_refl _)⟩
theorem task_no (m : Int) (A : Option Addr) (c : Nat) (l : Nat) (xs : List WR) (kd : Int) (b : Bool) (w : World) (hC : Kd.C k68 w A xs.length xs) (hb : ¬ bgOk m xs.length) :
    Calls Try.prog 8 #[.agg (startC m A xs.length c (l : Int)), .int .i64 kd, .bool b] w fun e w' => e = .returned (.bool true) ∧ Below w.heap.size w w' := by
  cases b
  · exact task0q_no m A c l xs kd w hC hb
  · exact task0p_no m A c l xs kd w hC hb
theorem task_yes (m : Int) (A : Option Addr) (c : Nat) (l : Nat) (xs : List WR) (kd : Int) (b : Bool) (w : World) (hC : Kd.C k68 w A xs.length xs) (hx : wrOk xs) (hl : U l) (hb : bgOk m xs.length) :
    Calls Try.prog 8 #[.agg (startC m A xs.length c (l : Int)), .int .i64 kd, .bool b] w fun e w' => e = .returned (.bool true) ∧ Below w.heap.size w w' := by
  have hM := (bg_mode (xs := xs) (l := l) hb).1
  rcases hM with h | h | h <;> cases b
  · exact task0q_yes m A c l xs kd w hC hx hl hb (fun S e => e ▸ h)
  · exact task0p_yes m A c l xs kd w hC hx hl hb (fun S e => e ▸ h)
  · exact task1q_yes m A c l xs kd w hC hx hl hb (fun S e => e ▸ h)
  · exact task1p_yes m A c l xs kd w hC hx hl hb (fun S e => e ▸ h)
  · exact task3q_yes m A c l xs kd w hC hx hl hb (fun S e => e ▸ h)
  · exact task3p_yes m A c l xs kd w hC hx hl hb (fun S e => e ▸ h)
end Go.Proofs.Ytnknfepbekaobaa.H
