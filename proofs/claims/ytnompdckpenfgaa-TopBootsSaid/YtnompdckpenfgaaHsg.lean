/- Regions, in whatever order, told slot by slot (the general part of hmc0). -/
import Derived.Test.YtnompdckpenfgaaHslots3
import Derived.ArgAppend
namespace Go.Proofs.Ytnompdckpenfgaa.H
open Go.RowKit Go.Proofs.YtnompdckpenfgaaW.PrintWords Go.Proofs.YtnompdckpenfgaaW.PrintLast Go.Proofs.Ytnompdckpenfgaa.PAl
set_option linter.unusedVariables false
set_option linter.unusedSimpArgs false
theorem KpN.below {w w' : World} (h : KpN w w') : Below w.heap.size w w' := Kp.below h (fun _ _ h => h.elim) (Nat.le_refl _)
theorem kpn_of {w w' : World} (h : Below w.heap.size w w') : KpN w w' := Kp.of_below h _
/-- What a slot holds. -/
structure Stb where
  p : Value → World → Prop
  st : ∀ v w w', p v w → KpN w w' → p v w'
def Stb.val (u : Value) : Stb := ⟨fun v _ => v = u, fun _ _ _ h _ => h⟩
def Stb.any : Stb := ⟨fun _ _ => True, fun _ _ _ h _ => h⟩
def Stb.blk (cs : Array Value) (e n : Nat) : Stb := ⟨fun v w => ∃ b, v = .slice (some ⟨b, 0, none⟩) n n ∧ w.heap[b]? = some (.cells cs e (0, 0)), fun _ _ _ h k => by obtain ⟨b, h1, h2⟩ := h; exact ⟨b, h1, (k.block b (blk_lt h2) (fun h => h)).trans h2⟩⟩
/-- A pointer to a block of its own that is new since a world of that size. -/
def Stb.new (b0 : Nat) (cs : Array Value) (e : Nat) : Stb := ⟨fun v w => ∃ b, v = .pointer (some ⟨b, 0, none⟩) ∧ b0 ≤ b ∧ w.heap[b]? = some (.cells cs e (0, 0)), fun _ _ _ h k => by obtain ⟨b, h1, h2, h3⟩ := h; exact ⟨b, h1, h2, (k.block b (blk_lt h3) (fun h => h)).trans h3⟩⟩
theorem ag_old {D : List Nat} {a0 a : Act} (hA : Ag D.length (fun i => D.getD i 0) a0 a) {s : Nat} (hs : s ∉ D) : a.tmps.getD s undef = a0.tmps.getD s undef :=
  hA.old s fun i hi e => hs (by rw [← e, List.getD_eq_getElem?_getD, List.getElem?_eq_getElem hi]; exact List.getElem_mem hi)
theorem at_get {ops : Array Oper} {i : Nat} {o : Oper} (h : ops[i]? = some o) : ops.getD i default = o := by rw [Array.getD_eq_getD_getElem?, h]; rfl
section
variable {P : Program} {ops : Array Oper}
def upTo (n m : Nat) : Array Bool := (Array.range m).map fun i => decide (i < n)
/-- What is asked of a region's form. -/
def formR (ops : Array Oper) (D : List Nat) (m : Nat) : Bool :=
  slotsR ops D.length (upTo D.length ops.size) && decide (D.length + 1 = ops.size) && decide (Region.ready .any ops (upTo D.length ops.size) = [D.length]) && decide (Region.ready .any ops ((upTo D.length ops.size).setIfInBounds D.length true) = [])
    && decide D.Nodup && D.all (fun t => decide (t < m)) && (List.range D.length).all fun i => match ops[i]? with | some o => decide (o.dst = some (D.getD i 0)) | none => false
theorem nodup_inj {D : List Nat} (h : D.Nodup) : ∀ i j, i < D.length → j < D.length → D.getD i 0 = D.getD j 0 → i = j := fun i j hi hj e => by
  rw [List.getD_eq_getElem?_getD, List.getD_eq_getElem?_getD, List.getElem?_eq_getElem hi, List.getElem?_eq_getElem hj, Option.getD_some, Option.getD_some] at e
  rcases Nat.lt_trichotomy i j with q | q | q
  · exact absurd e (List.pairwise_iff_getElem.1 h i j hi hj q)
  · exact q
  · exact absurd e.symm (List.pairwise_iff_getElem.1 h j i hj hi q)
/-- A region, drawn or not: its head told by L, then its last operation. -/
theorem wp_slots {id : Nat} {Q : Exit → Act → World → Prop} {a0 : Act} {w : World} (dr : Bool) (D : List Nat) (L : List Stb) (last : Oper) (hm : P.follows .mixedOrders = true) (hF : formR ops D a0.tmps.size = true) (hl : ops[D.length]? = some last) (hlg : last.guard = none)
    (hstep : ∀ i o, i < D.length → ops[i]? = some o → ∀ a w', KpN w w' → Ag D.length (fun i => D.getD i 0) a0 a → (∀ j, j < D.length → Region.waitsFor .any ops i j = true → (L.getD j Stb.any).p (a.tmps.getD (D.getD j 0) undef) w') → stepS P ops Q o (fun v w'' => KpN w' w'' ∧ (L.getD i Stb.any).p v w'') a w')
    (hend : ∀ a w', KpN w w' → a.defers = a0.defers → a.tmps.size = a0.tmps.size → (∀ s, s ∉ D → a.tmps.getD s undef = a0.tmps.getD s undef) → (∀ i, i < D.length → (L.getD i Stb.any).p (a.tmps.getD (D.getD i 0) undef) w') → last.wp P a w' (fun a w => Q .normal a w) Q) : (Code.region id ops dr).wp P Q a0 w := by
  unfold formR at hF
  simp only [Bool.and_eq_true, decide_eq_true_eq] at hF
  obtain ⟨⟨⟨⟨⟨⟨f1, f2⟩, f3⟩, f4⟩, f5⟩, f6⟩, f7⟩ := hF
  have hdst : ∀ i o, i < D.length → ops[i]? = some o → o.dst = some (D.getD i 0) := fun i o hi ho => by
    have := List.all_eq_true.1 f7 i (List.mem_range.2 hi)
    rw [ho] at this
    simpa using this
  have hd : ∀ i, i < D.length → D.getD i 0 < a0.tmps.size := fun i hi => by
    have := List.all_eq_true.1 f6 (D.getD i 0) (by rw [List.getD_eq_getElem?_getD, List.getElem?_eq_getElem hi]; exact List.getElem_mem hi)
    simpa using this
  have hinj := nodup_inj f5
  have old : ∀ (a : Act), Ag D.length (fun i => D.getD i 0) a0 a → ∀ s, s ∉ D → a.tmps.getD s undef = a0.tmps.getD s undef := fun a hA s hs => hA.old s fun i hi e => hs (by rw [← e, List.getD_eq_getElem?_getD, List.getElem?_eq_getElem hi]; exact List.getElem_mem hi)
  cases dr with
  | true =>
    refine wp_region_slots D.length 1 (upTo D.length ops.size) (fun i => D.getD i 0) (fun i v w => (L.getD i Stb.any).p v w) (fun _ => false) hm f1 f2 hdst hd hinj (fun i v w w' _ h k => (L.getD i Stb.any).st v w w' h k) ?_ ?_
    · intro i o hi ho a w' hk hA hdep
      have h := hstep i o hi ho a w' hk hA hdep
      unfold stepS at h ⊢
      split
      · next hw => rw [if_pos hw] at h; exact Oper.wp_mono (fun a' w'' h => by obtain ⟨v, e, h1, h2⟩ := h; exact ⟨v, e, h1, h2, fun h => by cases h⟩) h
      · next hw => rw [if_neg hw] at h; exact ⟨h.1, h.2, fun h => by cases h⟩
    · intro v w' hk hR _
      refine any_1 f3 hl hlg ?_
      have hAg : Ag D.length (fun i => D.getD i 0) a0 (putN a0 (fun i => D.getD i 0) v D.length) := by
        have key : ∀ k, k ≤ D.length → Ag D.length (fun i => D.getD i 0) a0 (putN a0 (fun i => D.getD i 0) v k) := by
          intro k
          induction k with
          | zero => intro _; exact Ag.refl _ _ _
          | succ k ih => intro hk; exact (ih (by omega)).put (i := k) (by omega) _
        exact key _ (Nat.le_refl _)
      have hget : ∀ k, k ≤ D.length → ∀ i, i < k → (putN a0 (fun i => D.getD i 0) v k).tmps.getD (D.getD i 0) undef = v i := by
        intro k
        induction k with
        | zero => intro _ i hi; omega
        | succ k ih =>
          intro hk i hi
          unfold putN
          by_cases e : i = k
          · subst e; exact put_same _ _ _ (by rw [putN_size]; exact hd i (by omega))
          · rw [put_other _ _ _ _ fun q => e (hinj i k (by omega) (by omega) q.symm)]
            exact ih (by omega) i (by omega)
      refine Oper.wp_mono (fun a w h => ?_) (hend _ w' hk hAg.defers hAg.size (old _ hAg) (fun i hi => by rw [hget _ (Nat.le_refl _) i hi]; exact hR i hi))
      exact wpAny_done f4 h _
  | false =>
    refine wp_region_list ?_
    have hlen : ops.toList.length = D.length + 1 := by rw [Array.length_toList]; exact f2.symm
    have hfw : fwdR ops D.length = true := by
      unfold slotsR at f1
      simp only [Bool.and_eq_true] at f1
      exact f1.1.2
    have key : ∀ (m k : Nat), k + m = D.length → ∀ a w', KpN w w' → Ag D.length (fun i => D.getD i 0) a0 a → (∀ i, i < k → (L.getD i Stb.any).p (a.tmps.getD (D.getD i 0) undef) w') → wpList P ops Q (ops.toList.drop k) a w' := by
      intro m
      induction m with
      | zero =>
        intro k hk a w' hK hA hR
        have : k = D.length := by omega
        subst this
        have e : ops.toList.drop D.length = [last] := by
          have h1 : ops.toList[D.length]? = some last := by rw [Array.getElem?_toList]; exact hl
          obtain ⟨hlt, h2⟩ := List.getElem?_eq_some_iff.1 h1
          rw [List.drop_eq_getElem_cons hlt, h2, List.drop_of_length_le (by omega)]
        rw [e]
        unfold wpList
        rw [if_pos (wanted_none hlg _)]
        exact .inl (Oper.wp_mono (fun a w h => h) (hend a w' hK hA.defers hA.size (old a hA) hR))
      | succ m ih =>
        intro k hk a w' hK hA hR
        have hkl : k < D.length := by omega
        have hlt : k < ops.toList.length := by omega
        have ho : ops[k]? = some ops.toList[k] := by rw [← Array.getElem?_toList]; exact List.getElem?_eq_getElem hlt
        rw [List.drop_eq_getElem_cons hlt]
        have hst := hstep k _ hkl ho a w' hK hA (fun j hj hw => by
          have h1 := List.all_eq_true.1 hfw k (List.mem_range.2 hkl)
          rw [ho] at h1
          obtain ⟨o', ho', e, he, hb, hon⟩ := Region.waitsFor_spec hw
          have : o' = ops.toList[k] := Option.some.inj (ho'.symm.trans ho)
          subst this
          have h2 := Array.all_eq_true'.1 h1 e he
          rw [hb] at h2
          have h3 : e.on < k := by simpa using h2
          exact hR j (by omega))
        have hdk := hdst k _ hkl ho
        have next : ∀ v w'', KpN w' w'' → (L.getD k Stb.any).p v w'' → wpList P ops Q (ops.toList.drop (k + 1)) (a.put ops.toList[k].dst v) w'' := fun v w'' hk2 hr => by
          rw [hdk]
          refine ih (k + 1) (by omega) _ w'' (hK.trans hk2) (hA.put hkl v) (fun i hi => ?_)
          by_cases e : i = k
          · subst e; rw [put_same _ _ _ (by rw [hA.size]; exact hd i (by omega))]; exact hr
          · rw [put_other _ _ _ _ fun q => e (hinj i k (by omega) (by omega) q.symm)]
            exact (L.getD i Stb.any).st _ _ _ (hR i (by omega)) hk2
        unfold stepS at hst
        unfold wpList
        by_cases hw : Region.wanted ops.toList[k] (yielded ops a.tmps) = true
        · rw [if_pos hw] at hst ⊢
          refine .inl (Oper.wp_mono (fun a' w'' h => ?_) hst)
          obtain ⟨v, rfl, hk2, hr⟩ := h
          exact next v w'' hk2 hr
        · rw [if_neg hw] at hst ⊢
          exact next undef w' hst.1 hst.2
    exact key D.length 0 (by omega) a0 w (Kp.refl _ _) (Ag.refl _ _ _) (fun i hi => by omega)
variable {Q : Exit → Act → World → Prop} {o : Oper} {F : Value → World → Prop} {a : Act} {w : World} {K : Act → World → Prop} {rest : List Oper}
theorem last_step (hg : o.guard = none) (h : stepS P ops Q o F a w) (hK : ∀ v w', F v w' → K (a.put o.dst v) w') : o.wp P a w K Q := by
  unfold stepS at h
  rw [if_pos (wanted_none hg _)] at h
  exact Oper.wp_mono (fun a' w' h => by obtain ⟨v, rfl, hF⟩ := h; exact hK v w' hF) h
theorem list_step (hg : o.guard = none) (h : stepS P ops Q o F a w) (hK : ∀ v w', F v w' → wpList P ops Q rest (a.put o.dst v) w') : wpList P ops Q (o :: rest) a w := by
  unfold stepS at h
  rw [if_pos (wanted_none hg _)] at h
  unfold wpList
  rw [if_pos (wanted_none hg _)]
  exact .inl (Oper.wp_mono (fun a' w' h => by obtain ⟨v, rfl, hF⟩ := h; exact hK v w' hF) h)
theorem reg_as {id : Nat} {x : Operand} (hg : o.guard = none) (ho : o.op = .assign x) (h : Q .normal (a.put o.dst (a.eval x)) w) : (Code.region id #[o] false).wp P Q a w :=
  wp_region_list (wpList_plain hg fun K hK => wp_as ho (hK _ _ h))
theorem reg_al {id : Nat} {t : TypeId} (hg : o.guard = none) (ho : o.op = .alloc t) (cs : Array Value) (hz : ∀ W, (zeroValue t).run P W = .ok (.agg cs) W) (h : ∀ g, g = w.heap.size → ∀ w1, w1.heap[g]? = some (.cells cs t (0, 0)) → KpN w w1 → Q .normal (a.put o.dst (.pointer (some ⟨g, 0, none⟩))) w1) : (Code.region id #[o] false).wp P Q a w :=
  wp_region_list (wpList_plain hg fun K hK => wp_al ho cs hz fun g hg w1 hb hk => hK _ _ (h g hg w1 hb hk))
end
end Go.Proofs.Ytnompdckpenfgaa.H
