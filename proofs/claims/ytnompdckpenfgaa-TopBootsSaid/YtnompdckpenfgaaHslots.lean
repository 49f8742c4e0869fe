/- A region that draws its order: a head of operations that read, or lay new blocks, each told by what its value is (a relation that later laying keeps), in whatever order; then the tail. -/
import Derived.Test.YtnompdckpenfgaaHtail
namespace Go.Proofs.Ytnompdckpenfgaa.H
open Go.RowKit Go.Proofs.YtnompdckpenfgaaW.PrintWords Go.Proofs.YtnompdckpenfgaaW.PrintLast Go.Proofs.Ytnompdckpenfgaa.PAl
set_option linter.unusedVariables false
set_option linter.unusedSimpArgs false
section
variable {P : Program} {ops : Array Oper}
structure Ag (n : Nat) (d : Nat → Tmp) (a0 a : Act) : Prop where
  size : a.tmps.size = a0.tmps.size
  defers : a.defers = a0.defers
  old : ∀ s, (∀ i, i < n → d i ≠ s) → a.tmps.getD s undef = a0.tmps.getD s undef
theorem put_size (a : Act) (o : Option Tmp) (v : Value) : (a.put o v).tmps.size = a.tmps.size := by
  cases o <;> simp [Act.put]
theorem put_same (a : Act) (s : Tmp) (v : Value) (h : s < a.tmps.size) : (a.put (some s) v).tmps.getD s undef = v := by
  simp [Act.put, Array.getElem?_setIfInBounds, h]
theorem put_other (a : Act) (s t : Tmp) (v : Value) (h : s ≠ t) : (a.put (some s) v).tmps.getD t undef = a.tmps.getD t undef := by
  simp [Act.put, Array.getElem?_setIfInBounds, h]
theorem Ag.refl (n : Nat) (d : Nat → Tmp) (a : Act) : Ag n d a a := ⟨rfl, rfl, fun _ _ => rfl⟩
theorem Ag.put {n : Nat} {d : Nat → Tmp} {a0 a : Act} (h : Ag n d a0 a) {i : Nat} (hi : i < n) (v : Value) : Ag n d a0 (a.put (some (d i)) v) :=
  ⟨(put_size _ _ _).trans h.size, h.defers, fun s hs => (put_other a (d i) s v (hs i hi)).trans (h.old s hs)⟩
def putN (a0 : Act) (d : Nat → Tmp) (v : Nat → Value) : Nat → Act
  | 0 => a0
  | k + 1 => (putN a0 d v k).put (some (d k)) (v k)
theorem putN_size (a0 : Act) (d : Nat → Tmp) (v : Nat → Value) : ∀ k, (putN a0 d v k).tmps.size = a0.tmps.size
  | 0 => rfl
  | k + 1 => (put_size _ _ _).trans (putN_size a0 d v k)
theorem putN_defers (a0 : Act) (d : Nat → Tmp) (v : Nat → Value) : ∀ k, (putN a0 d v k).defers = a0.defers
  | 0 => rfl
  | k + 1 => putN_defers a0 d v k
theorem putN_at {n : Nat} {d : Nat → Tmp} {a0 a : Act} (h : Ag n d a0 a) (hd : ∀ i, i < n → d i < a0.tmps.size) : ∀ k, k ≤ n → ∀ s,
    ((∃ i, i < k ∧ d i = s) → (putN a0 d (fun i => a.tmps.getD (d i) undef) k).tmps.getD s undef = a.tmps.getD s undef) ∧ ((¬ ∃ i, i < k ∧ d i = s) → (putN a0 d (fun i => a.tmps.getD (d i) undef) k).tmps.getD s undef = a0.tmps.getD s undef)
  | 0, _, s => ⟨fun ⟨i, hi, _⟩ => by omega, fun _ => rfl⟩
  | k + 1, hk, s => by
    have ih := putN_at h hd k (by omega) s
    by_cases e : d k = s
    · refine ⟨fun _ => ?_, fun hn => absurd ⟨k, by omega, e⟩ hn⟩
      subst e
      exact put_same _ _ _ (by rw [putN_size]; exact hd k (by omega))
    · refine ⟨fun ⟨i, hi, hs⟩ => ?_, fun hn => ?_⟩
      · refine (put_other _ _ _ _ e).trans (ih.1 ⟨i, ?_, hs⟩)
        by_cases hik : i = k
        · subst hik; exact absurd hs e
        · omega
      · exact (put_other _ _ _ _ e).trans (ih.2 fun ⟨i, hi, hs⟩ => hn ⟨i, by omega, hs⟩)
theorem act_ext {a b : Act} (hs : a.tmps.size = b.tmps.size) (hd : a.defers = b.defers) (h : ∀ s, a.tmps.getD s undef = b.tmps.getD s undef) : a = b := by
  obtain ⟨ta, da⟩ := a; obtain ⟨tb, db⟩ := b
  have e : ta = tb := Array.ext hs fun i h1 h2 => by
    have := h i
    simp only [Array.getD_eq_getD_getElem?, Array.getElem?_eq_getElem h1, Array.getElem?_eq_getElem h2, Option.getD_some] at this
    exact this
  have hd' : da = db := hd
  rw [e, hd']
theorem putN_eq {n : Nat} {d : Nat → Tmp} {a0 a : Act} (h : Ag n d a0 a) (hd : ∀ i, i < n → d i < a0.tmps.size) : putN a0 d (fun i => a.tmps.getD (d i) undef) n = a :=
  act_ext ((putN_size _ _ _ _).trans h.size.symm) ((putN_defers _ _ _ _).trans h.defers.symm) fun s => by
    have := putN_at h hd n (Nat.le_refl _) s
    by_cases e : ∃ i, i < n ∧ d i = s
    · exact this.1 e
    · exact (this.2 e).trans (h.old s fun i hi hs => e ⟨i, hi, hs⟩).symm
/-- How many of the head aren't done. -/
def unl (L : Array Bool) : Nat → Nat
  | 0 => 0
  | k + 1 => unl L k + (if L.getD k true = false then 1 else 0)
theorem unl_far (L : Array Bool) (i : Nat) : ∀ k, k ≤ i → unl (L.setIfInBounds i true) k = unl L k
  | 0, _ => rfl
  | k + 1, h => by
    unfold unl
    rw [unl_far L i k (by omega), getD_set_ne true (by omega)]
theorem unl_set (L : Array Bool) (i : Nat) (hi : L.getD i true = false) : ∀ k, i < k → unl (L.setIfInBounds i true) k + 1 = unl L k
  | 0, h => by omega
  | k + 1, h => by
    unfold unl
    by_cases e : i = k
    · subst e
      rw [unl_far L i i (Nat.le_refl _), if_pos hi, if_neg (by
        have hlt : i < L.size := by
          rcases Nat.lt_or_ge i L.size with h | h
          · exact h
          · rw [Array.getD_eq_getD_getElem?, Array.getElem?_eq_none h] at hi; cases hi
        simp [hlt])]
    · have := unl_set L i hi k (by omega)
      rw [getD_set_ne true e]; omega
theorem unl_zero (L : Array Bool) : ∀ k, unl L k = 0 → ∀ i, i < k → L.getD i true = true
  | 0, _, i, h => by omega
  | k + 1, h, i, hi => by
    unfold unl at h
    by_cases e : i = k
    · subst e
      cases hb : L.getD i true
      · rw [hb] at h; simp at h
      · rfl
    · exact unl_zero L k (by omega) i (by omega)
theorem unl_pos (L : Array Bool) : ∀ k, unl L k ≠ 0 → ∃ i, i < k ∧ L.getD i true = false ∧ ∀ j, j < i → L.getD j true = true
  | 0, h => absurd rfl h
  | k + 1, h => by
    by_cases e : unl L k = 0
    · have : L.getD k true = false := by
        unfold unl at h
        cases hb : L.getD k true
        · rfl
        · rw [hb, e] at h; simp at h
      exact ⟨k, by omega, this, unl_zero L k e⟩
    · obtain ⟨i, hi, h1, h2⟩ := unl_pos L k e
      exact ⟨i, by omega, h1, h2⟩
/-- A pointer's block. -/
def ptrB : Value → Nat
  | .pointer (some a) => a.block
  | _ => 0
/-- The values of the head's layings lie apart. -/
structure Apt (n : Nat) (d : Nat → Tmp) (Nw : Nat → Bool) (L : Array Bool) (a : Act) (w : World) : Prop where
  lt : ∀ i, i < n → L.getD i true = true → Nw i = true → ptrB (a.tmps.getD (d i) undef) < w.heap.size
  ne : ∀ i j, i < n → j < n → L.getD i true = true → L.getD j true = true → i ≠ j → Nw i = true → Nw j = true → ptrB (a.tmps.getD (d i) undef) ≠ ptrB (a.tmps.getD (d j) undef)
/-- An operation's own step: its value is told by F. -/
def stepS (P : Program) (ops : Array Oper) (Q : Exit → Act → World → Prop) (o : Oper) (F : Value → World → Prop) (a : Act) (w : World) : Prop :=
  if Region.wanted o (yielded ops a.tmps) then o.wp P a w (fun a' w' => ∃ v, a' = a.put o.dst v ∧ F v w') Q else F undef w
/-- Each operation of the head waits for earlier ones alone. -/
def fwdR (ops : Array Oper) (n : Nat) : Bool := (List.range n).all fun i => match ops[i]? with | some o => o.after.all fun e => !(Region.binds .any e) || decide (e.on < i) | none => false
def slotsR (ops : Array Oper) (n : Nat) (L0 : Array Bool) : Bool :=
  decide (n < ops.size) && Region.sinkB .any ops n && chainR .any ops n && fwdR ops n && decide (L0 = (Array.range ops.size).map fun i => decide (i < n))
theorem slots_any {Q : Exit → Act → World → Prop} {n g : Nat} {L0 : Array Bool} {w0 : World} {a0 : Act} {d : Nat → Tmp} {R : Nat → Value → World → Prop} {Nw : Nat → Bool}
    (hs : Region.sinkB .any ops n = true) (hc : chainR .any ops n = true) (hf : fwdR ops n = true) (hn : n < ops.size) (hL0 : L0 = (Array.range ops.size).map fun i => decide (i < n))
    (hdst : ∀ i o, i < n → ops[i]? = some o → o.dst = some (d i)) (hd : ∀ i, i < n → d i < a0.tmps.size) (hinj : ∀ i j, i < n → j < n → d i = d j → i = j)
    (hstab : ∀ i v w w', i < n → R i v w → KpN w w' → R i v w')
    (hstep : ∀ i o, i < n → ops[i]? = some o → ∀ a w, KpN w0 w → Ag n d a0 a → (∀ j, j < n → Region.waitsFor .any ops i j = true → R j (a.tmps.getD (d j) undef) w) → stepS P ops Q o (fun v w' => KpN w w' ∧ R i v w' ∧ (Nw i = true → w.heap.size ≤ ptrB v ∧ ptrB v < w'.heap.size)) a w)
    (hend : ∀ (v : Nat → Value) w, KpN w0 w → (∀ i, i < n → R i (v i) w) → (∀ i j, i < n → j < n → i ≠ j → Nw i = true → Nw j = true → ptrB (v i) ≠ ptrB (v j)) → wpAny P .any ops Q g L0 (putN a0 d v n) w) :
    ∀ (m : Nat) (L : Array Bool) (a : Act) (w : World), unl L n = m → HeadInv .any ops n L → KpN w0 w → Ag n d a0 a → (∀ i, i < n → L.getD i true = true → R i (a.tmps.getD (d i) undef) w) → Apt n d Nw L a w → wpAny P .any ops Q (m + g) L a w
  | 0, L, a, w, hm, inv, hK, hA, hR, hN => by
    have hall := unl_zero L n hm
    have e : L = L0 := by
      rw [hL0]
      refine Array.ext (by rw [inv.size]; simp) fun i h1 h2 => ?_
      rw [Array.getElem_map, Array.getElem_range]
      by_cases hi : i < n
      · have := hall i hi
        rw [Array.getD_eq_getD_getElem?, Array.getElem?_eq_getElem h1, Option.getD_some] at this
        rw [this, decide_eq_true hi]
      · have := inv.tail i (by omega) (by rw [← inv.size]; exact h1)
        rw [Array.getD_eq_getD_getElem?, Array.getElem?_eq_getElem h1, Option.getD_some] at this
        rw [this, decide_eq_false hi]
    rw [e, Nat.zero_add]
    have h := hend (fun i => a.tmps.getD (d i) undef) w hK (fun i hi => hR i hi (hall i hi)) (fun i j hi hj => hN.ne i j hi hj (hall i hi) (hall j hj))
    rw [putN_eq hA hd] at h
    exact h
  | m + 1, L, a, w, hm, inv, hK, hA, hR, hN => by
    obtain ⟨i0, hi0, hu0, hmin⟩ := unl_pos L n (by omega)
    have hready : i0 ∈ Region.ready .any ops L := by
      rw [mem_ready]
      have hf0 := List.all_eq_true.1 hf i0 (List.mem_range.2 hi0)
      cases ho : ops[i0]? with
      | none => rw [ho] at hf0; cases hf0
      | some o =>
        rw [ho] at hf0
        refine ⟨hu0, o, rfl, fun e he hb => ?_⟩
        have := Array.all_eq_true'.1 hf0 e he
        rw [hb] at this
        have hlt : e.on < i0 := by simpa using this
        have h2 := hmin e.on hlt
        have hsz : e.on < L.size := by rw [inv.size]; omega
        rw [Array.getD_eq_getD_getElem?, Array.getElem?_eq_getElem hsz, Option.getD_some] at h2 ⊢
        exact h2
    rw [show m + 1 + g = (m + g) + 1 by omega]
    refine ⟨fun h0 => (by rw [h0] at hready; cases hready), fun i hi => ?_⟩
    have hin : i < n := by
      rcases Nat.lt_or_ge i n with h | h
      · exact h
      · exact absurd hi (tail_waitsR hs hc hn inv _ i0 rfl hi0 hu0 i h)
    obtain ⟨hu, o, ho, hall⟩ := mem_ready.1 hi
    have hst := hstep i o hin ho a w hK hA fun j hj hw => by
      obtain ⟨o', ho', e, he, hb, hon⟩ := Region.waitsFor_spec hw
      obtain rfl : o' = o := Option.some.inj (ho'.symm.trans ho)
      have := hall e he hb
      rw [hon] at this
      have hsz : j < L.size := by rw [inv.size]; omega
      rw [Array.getD_eq_getD_getElem?, Array.getElem?_eq_getElem hsz, Option.getD_some] at this
      exact hR j hj (by rw [Array.getD_eq_getD_getElem?, Array.getElem?_eq_getElem hsz, Option.getD_some]; exact this)
    have hed : o.dst = some (d i) := hdst i o hin ho
    have next : ∀ v w', KpN w w' → R i v w' → (Nw i = true → w.heap.size ≤ ptrB v ∧ ptrB v < w'.heap.size) → wpAny P .any ops Q (m + g) (L.setIfInBounds i true) (a.put (some (d i)) v) w' := fun v w' hk hr hnw =>
      have same : (a.put (some (d i)) v).tmps.getD (d i) undef = v := put_same _ _ _ (by rw [hA.size]; exact hd i hin)
      have other : ∀ j, j < n → j ≠ i → (a.put (some (d i)) v).tmps.getD (d j) undef = a.tmps.getD (d j) undef := fun j hj e => put_other _ _ _ _ fun q => e (hinj i j hin hj q).symm
      have lst : ∀ j, j ≠ i → (L.setIfInBounds i true).getD j true = L.getD j true := fun j e => getD_set_ne true (Ne.symm e)
      slots_any hs hc hf hn hL0 hdst hd hinj hstab hstep hend m _ _ w' (by have := unl_set L i hu n hin; omega) (inv.set hi hin) (hK.trans hk) (hA.put hin v) (fun j hj hl => by
        by_cases e : j = i
        · subst e; rw [same]; exact hr
        · rw [other j hj e]; rw [lst j e] at hl
          exact hstab j _ _ _ hj (hR j hj hl) hk)
        ⟨fun j hj hl hn => by
          by_cases e : j = i
          · subst e; rw [same]; exact (hnw hn).2
          · rw [other j hj e]; rw [lst j e] at hl
            exact Nat.lt_of_lt_of_le (hN.lt j hj hl hn) hk.size, fun j k hj hk' hl hl' hne hn hn' => by
          by_cases e : j = i
          · subst e
            rw [same, other k hk' (Ne.symm hne)]; rw [lst k (Ne.symm hne)] at hl'
            have := hN.lt k hk' hl' hn'; have := (hnw hn).1; omega
          · by_cases e2 : k = i
            · subst e2
              rw [same, other j hj e]; rw [lst j e] at hl
              have := hN.lt j hj hl hn; have := (hnw hn').1; omega
            · rw [other j hj e, other k hk' e2]; rw [lst j e] at hl; rw [lst k e2] at hl'
              exact hN.ne j k hj hk' hl hl' hne hn hn'⟩
    unfold wpOp
    rw [ho]
    dsimp only
    unfold stepS at hst
    split
    · next hw =>
      rw [if_pos hw] at hst
      refine .inl (Oper.wp_mono (fun a' w' h => ?_) hst)
      obtain ⟨v, rfl, hk, hr, hn'⟩ := h
      rw [hed]
      exact next v w' hk hr hn'
    · next hw =>
      rw [if_neg hw] at hst
      rw [hed]
      exact next undef w hst.1 hst.2.1 hst.2.2
theorem wp_region_slots {id : Nat} {Q : Exit → Act → World → Prop} {a0 : Act} {w : World} (n g : Nat) (L0 : Array Bool) (d : Nat → Tmp) (R : Nat → Value → World → Prop) (Nw : Nat → Bool) (hm : P.follows .mixedOrders = true) (hB : slotsR ops n L0 = true) (hg : n + g = ops.size)
    (hdst : ∀ i o, i < n → ops[i]? = some o → o.dst = some (d i)) (hd : ∀ i, i < n → d i < a0.tmps.size) (hinj : ∀ i j, i < n → j < n → d i = d j → i = j)
    (hstab : ∀ i v w w', i < n → R i v w → KpN w w' → R i v w')
    (hstep : ∀ i o, i < n → ops[i]? = some o → ∀ a w', KpN w w' → Ag n d a0 a → (∀ j, j < n → Region.waitsFor .any ops i j = true → R j (a.tmps.getD (d j) undef) w') → stepS P ops Q o (fun v w'' => KpN w' w'' ∧ R i v w'' ∧ (Nw i = true → w'.heap.size ≤ ptrB v ∧ ptrB v < w''.heap.size)) a w')
    (hend : ∀ (v : Nat → Value) w', KpN w w' → (∀ i, i < n → R i (v i) w') → (∀ i j, i < n → j < n → i ≠ j → Nw i = true → Nw j = true → ptrB (v i) ≠ ptrB (v j)) → wpAny P .any ops Q g L0 (putN a0 d v n) w') : (Code.region id ops true).wp P Q a0 w := by
  simp only [slotsR, Bool.and_eq_true, decide_eq_true_eq] at hB
  obtain ⟨⟨⟨⟨hn, hs⟩, hc⟩, hf⟩, hL0⟩ := hB
  refine wp_region_any hm ?_
  have inv0 : HeadInv .any ops n (Array.replicate ops.size false) :=
    ⟨by simp, fun j oj _ hl => (by rw [getD_replicate_false] at hl; cases hl), fun t _ ht => getD_in (by simpa using ht) (getD_replicate_false _ _)⟩
  have hu : ∀ k, k ≤ ops.size → unl (Array.replicate ops.size false) k = k := by
    intro k
    induction k with
    | zero => intro _; rfl
    | succ k ih =>
      intro hk
      unfold unl
      rw [ih (by omega), if_pos (by rw [Array.getD_eq_getD_getElem?, Array.getElem?_replicate, if_pos (by omega)]; rfl)]
  have hd0 : KpN w w.drew := (Kp.refl _ _).drew
  have h := slots_any (P := P) (Q := Q) (g := g) (L0 := L0) (w0 := w) (a0 := a0) (Nw := Nw) hs hc hf hn hL0 hdst hd hinj hstab hstep hend n _ a0 w.drew (hu n (by omega)) inv0 hd0 (Ag.refl _ _ _) (fun i hi hl => by
    rw [Array.getD_eq_getD_getElem?, Array.getElem?_replicate, if_pos (by omega)] at hl; cases hl) ⟨fun i hi hl => (by
    rw [Array.getD_eq_getD_getElem?, Array.getElem?_replicate, if_pos (by omega)] at hl; cases hl), fun i j hi _ hl => (by
    rw [Array.getD_eq_getD_getElem?, Array.getElem?_replicate, if_pos (by omega)] at hl; cases hl)⟩
  rw [hg] at h
  exact h
/-! the steps -/
variable {Q : Exit → Act → World → Prop} {o : Oper} {F : Value → World → Prop} {a : Act} {w : World}
theorem sS_no (h : Region.wanted o (yielded ops a.tmps) = false) (hF : F undef w) : stepS P ops Q o F a w := by
  unfold stepS; rw [if_neg (by rw [h]; decide)]; exact hF
theorem sS_in (h : Region.wanted o (yielded ops a.tmps) = true) (hF : o.wp P a w (fun a' w' => ∃ v, a' = a.put o.dst v ∧ F v w') Q) : stepS P ops Q o F a w := by
  unfold stepS; rw [if_pos h]; exact hF
theorem sS_ld (hg : o.guard = none) {ty : TypeId} {x : Operand} (ho : o.op = .load ty x) (g : Nat) (hx : a.eval x = .pointer (some ⟨g, 0, none⟩)) (t : TypeId) (cs : Array Value) (d : TypeDesc)
    (hb : w.heap[g]? = some (.cells cs t (0, 0))) (hu : P.underlying ty = some d) (hd : (match d with | .struct _ | .array _ _ => true | _ => false) = true) (hi : (P.info? ty).map (·.size) = some cs.size)
    (hF : F (.agg cs) w) : stepS P ops Q o F a w := sS_in (wanted_none hg _) (wp_ld ho g hx t cs d hb hu hd hi ⟨_, rfl, hF⟩)
theorem sS_mv (hg : o.guard = none) {x : Operand} (ho : o.op = .move x) (hF : F (a.eval x) w) : stepS P ops Q o F a w := sS_in (wanted_none hg _) (wp_mv ho ⟨_, rfl, hF⟩)
theorem sS_ca (hg : o.guard = none) {f : FuncId} {fn : Func} {as_ : Array Operand} {ts : Array TypeId} (hop : o.op = .call { callee := .value (.func f), args := as_, argTypes := ts })
    (hf : P.funcs[f]? = some fn) (hname : (fn.name == "runtime.NumGoroutine") = false) (hb : fn.body.isSome = true) (args : Array Value) (hargs : as_.map a.eval = args)
    (h : Calls P f args w fun e w' => ∃ v, e = .returned v ∧ F v w') : stepS P ops Q o F a w :=
  sS_in (wanted_none hg _) (wp_ca hop hf hname hb args hargs (h.mono fun e w' h => by obtain ⟨v, he, hF⟩ := h; exact ⟨v, he, v, rfl, hF⟩))
theorem sS_al (hg : o.guard = none) {t : TypeId} (ho : o.op = .alloc t) (cs : Array Value) (hz : (zeroValue t).run P w = .ok (.agg cs) w)
    (h : ∀ g, g = w.heap.size → ∀ w1, w1.heap[g]? = some (.cells cs t (0, 0)) → KpN w w1 → F (.pointer (some ⟨g, 0, none⟩)) w1) : stepS P ops Q o F a w := by
  refine sS_in (wanted_none hg _) ?_
  have hrun : (execOp a.eval o).run P w = .ok (.value (.pointer (some ⟨w.heap.size, 0, none⟩))) (w.alloc (.cells cs t (0, 0))) := by
    unfold execOp
    simp only [ho, Instr.alloc, Sem.run_bind, hz, Result.andThen_ok]
    rfl
  unfold Oper.wp
  rw [hrun]
  exact ⟨_, rfl, h _ rfl _ (by simpa using heap_alloc_new w _) ((Kp.refl _ _).alloc _)⟩
theorem wp_al {K : Act → World → Prop} {t : TypeId} (ho : o.op = .alloc t) (cs : Array Value) (hz : ∀ W, (zeroValue t).run P W = .ok (.agg cs) W)
    (h : ∀ g, g = w.heap.size → ∀ w1, w1.heap[g]? = some (.cells cs t (0, 0)) → KpN w w1 → K (a.put o.dst (.pointer (some ⟨g, 0, none⟩))) w1) : o.wp P a w K Q := by
  have hrun : (execOp a.eval o).run P w = .ok (.value (.pointer (some ⟨w.heap.size, 0, none⟩))) (w.alloc (.cells cs t (0, 0))) := by
    unfold execOp
    simp only [ho, Instr.alloc, Sem.run_bind, hz, Result.andThen_ok]
    rfl
  unfold Oper.wp
  rw [hrun]
  exact h _ rfl _ (by simpa using heap_alloc_new w _) ((Kp.refl _ _).alloc _)
theorem yf_ld {S : World → Prop} (hg : o.guard = none) {ty : TypeId} {x : Operand} (ho : o.op = .load ty x) (g : Nat) (hx : a.eval x = .pointer (some ⟨g, 0, none⟩)) (t : TypeId) (cs : Array Value) (d : TypeDesc)
    (hb : ∀ w, S w → w.heap[g]? = some (.cells cs t (0, 0))) (hu : P.underlying ty = some d) (hd : (match d with | .struct _ | .array _ _ => true | _ => false) = true) (hi : (P.info? ty).map (·.size) = some cs.size) :
    YieldsIf P ops S o (.agg cs) a := by
  refine .inl ⟨wanted_none hg _, fun w hw => ?_⟩
  unfold execOp
  simp only [ho, hx, Instr.loadAt, Instr.sureAddr, Sem.run_bind, Sem.run_pure, Result.andThen_ok, run_loadVar_row w g t ty cs (0, 0) d (hb w hw) hu hd hi]
theorem anyH_1 {md : Region.Mode} {S : World → Prop} {i fuel : Nat} {listed : Array Bool} (hr : Region.ready md ops listed = [i]) (ho : ops[i]? = some o) (hg : o.guard = none)
    (h : o.wp P a w (fun a' w' => S w' ∧ wpAnyH P md ops Q S fuel (listed.setIfInBounds i true) a' w') Q) : wpAnyH P md ops Q S (fuel + 1) listed a w :=
  wpAnyH_all hr (by simp) fun k hk => by
    have : k = i := by simpa using hk
    subst this; exact op_in ho hg h
theorem anyH_2 {md : Region.Mode} {S : World → Prop} {i j fuel : Nat} {o' : Oper} {listed : Array Bool} (hr : Region.ready md ops listed = [i, j]) (ho : ops[i]? = some o) (hg : o.guard = none) (ho' : ops[j]? = some o') (hg' : o'.guard = none)
    (h : o.wp P a w (fun a' w' => S w' ∧ wpAnyH P md ops Q S fuel (listed.setIfInBounds i true) a' w') Q) (h' : o'.wp P a w (fun a' w' => S w' ∧ wpAnyH P md ops Q S fuel (listed.setIfInBounds j true) a' w') Q) : wpAnyH P md ops Q S (fuel + 1) listed a w :=
  wpAnyH_all hr (by simp) fun k hk => by
    have : k = i ∨ k = j := by simpa using hk
    rcases this with rfl | rfl
    · exact op_in ho hg h
    · exact op_in ho' hg' h'
end
/-- 'x, y := v, v' of a whole row. -/
theorem pair_out {P : Program} {id : Nat} {Q : Exit → Act → World → Prop} {a : Act} {w : World} {o0 o1 o2 o3 o4 o5 : Oper} (hm : P.follows .mixedOrders = true)
    (n0 : o0.guard = none) (n1 : o1.guard = none) (n2 : o2.guard = none) (n3 : o3.guard = none) (n4 : o4.guard = none) (n5 : o5.guard = none)
    (hsel : Region.noSelect #[o0, o1, o2, o3, o4, o5] = true)
    (f0 : Region.free .any #[o0, o1, o2, o3, o4, o5] #[false, false, false, false, false, false] 0 = true) (f1 : Region.free .any #[o0, o1, o2, o3, o4, o5] #[true, false, false, false, false, false] 1 = true)
    (c0 : (Region.ready .any #[o0, o1, o2, o3, o4, o5] #[false, false, false, false, false, false]).contains 0 = true) (c1 : (Region.ready .any #[o0, o1, o2, o3, o4, o5] #[true, false, false, false, false, false]).contains 1 = true)
    (r0 : Region.ready .any #[o0, o1, o2, o3, o4, o5] #[true, true, false, false, false, false] = [2, 3])
    (r1 : Region.ready .any #[o0, o1, o2, o3, o4, o5] #[true, true, true, false, false, false] = [3])
    (r2 : Region.ready .any #[o0, o1, o2, o3, o4, o5] #[true, true, false, true, false, false] = [2])
    (r3 : Region.ready .any #[o0, o1, o2, o3, o4, o5] #[true, true, true, true, false, false] = [4])
    (r4 : Region.ready .any #[o0, o1, o2, o3, o4, o5] #[true, true, true, true, true, false] = [5])
    (r5 : Region.ready .any #[o0, o1, o2, o3, o4, o5] #[true, true, true, true, true, true] = [])
    {T : TypeId} {x0 x1 x4 y4 x5 y5 : Operand} {D : TypeDesc} (e0 : o0.op = .load T x0) (e1 : o1.op = .load T x1) (e2 : o2.op = .alloc T) (e3 : o3.op = .alloc T) (e4 : o4.op = .store T x4 y4) (e5 : o5.op = .store T x5 y5) (d4 : o4.dst = none) (d5 : o5.dst = none)
    (u0 : P.underlying T = some D) (q0 : (match D with | .struct _ | .array _ _ => true | _ => false) = true)
    (g : Nat) (cs zs : Array Value) (hz : ∀ W, (zeroValue T).run P W = .ok (.agg zs) W) (i0 : (P.info? T).map (·.size) = some cs.size) (s0 : zs.size = cs.size) (v0 : cs.all (·.oneCell') = true)
    (b0 : w.heap[g]? = some (.cells cs T (0, 0))) (hQ : (∀ c a w, Q (.panic c) (a.put o0.dst (.agg cs)) w → Q (.panic c) a w) ∧ (∀ c a w, Q (.panic c) (a.put o1.dst (.agg cs)) w → Q (.panic c) a w))
    (p0 : a.eval x0 = .pointer (some ⟨g, 0, none⟩)) (p1 : (a.put o0.dst (.agg cs)).eval x1 = .pointer (some ⟨g, 0, none⟩))
    (comm : ∀ u v, (((a.put o0.dst (.agg cs)).put o1.dst (.agg cs)).put o3.dst v).put o2.dst u = (((a.put o0.dst (.agg cs)).put o1.dst (.agg cs)).put o2.dst u).put o3.dst v)
    (p4 : ∀ u v, ((((a.put o0.dst (.agg cs)).put o1.dst (.agg cs)).put o2.dst u).put o3.dst v).eval x4 = u) (p5 : ∀ u v, ((((a.put o0.dst (.agg cs)).put o1.dst (.agg cs)).put o2.dst u).put o3.dst v).eval y4 = .agg cs)
    (p6 : ∀ u v, ((((a.put o0.dst (.agg cs)).put o1.dst (.agg cs)).put o2.dst u).put o3.dst v).eval x5 = v) (p7 : ∀ u v, ((((a.put o0.dst (.agg cs)).put o1.dst (.agg cs)).put o2.dst u).put o3.dst v).eval y5 = .agg cs)
    (k : ∀ ga gb w2, ga ≠ gb → w.heap.size ≤ ga → w.heap.size ≤ gb → w2.heap[ga]? = some (.cells cs T (0, 0)) → w2.heap[gb]? = some (.cells cs T (0, 0)) → KpN w w2 →
      Q .normal ((((a.put o0.dst (.agg cs)).put o1.dst (.agg cs)).put o2.dst (.pointer (some ⟨ga, 0, none⟩))).put o3.dst (.pointer (some ⟨gb, 0, none⟩))) w2) :
    (Code.region id #[o0, o1, o2, o3, o4, o5] true).wp P Q a w := by
  refine wp_region_held (S := fun W => W.heap[g]? = some (.cells cs T (0, 0))) hm ?_
  show wpAnyH P .any #[o0, o1, o2, o3, o4, o5] Q _ 6 #[false, false, false, false, false, false] a w.drew
  have kd : KpN w w.drew := (Kp.refl _ _).drew
  · have fin : ∀ ga gb W, ga ≠ gb → w.heap.size ≤ ga → w.heap.size ≤ gb → W.heap[ga]? = some (.cells zs T (0, 0)) → W.heap[gb]? = some (.cells zs T (0, 0)) → KpN w W →
        wpAnyH P .any #[o0, o1, o2, o3, o4, o5] Q (fun W => W.heap[g]? = some (.cells cs T (0, 0))) 2 #[true, true, true, true, false, false] ((((a.put o0.dst (.agg cs)).put o1.dst (.agg cs)).put o2.dst (.pointer (some ⟨ga, 0, none⟩))).put o3.dst (.pointer (some ⟨gb, 0, none⟩))) W := by
      intro ga gb W hne hga hgb ha hb hK
      have hg := blk_lt b0
      have bW := (hK.block g hg (fun h => h)).trans b0
      refine anyH_1 r3 rfl n4 (wp_st e4 d4 ga cs zs T (p4 _ _) (p5 _ _) ha i0 s0 v0 fun w1 t1 k1 => ⟨(k1.block g (blk_lt bW) (by omega)).trans bW, ?_⟩)
      have b1 := (k1.block g (blk_lt bW) (by omega)).trans bW
      refine anyH_1 r4 rfl n5 (wp_st e5 d5 gb cs zs T (p6 _ _) (p7 _ _) ((k1.block gb (blk_lt hb) (Ne.symm hne)).trans hb) i0 s0 v0 fun w2 t2 k2 => ⟨(k2.block g (blk_lt b1) (by omega)).trans b1, ?_⟩)
      refine wpAnyH_done r5 ?_ _
      exact k ga gb w2 hne hga hgb ((k2.block ga (blk_lt t1) hne).trans t1) t2 ((hK.then k1 fun i hi (e : i = ga) => by omega).then k2 fun i hi (e : i = gb) => by omega)
    refine wpAnyH_take (i := 0) (v := .agg cs) rfl hsel f0 c0 hQ.1 (yf_ld n0 e0 g p0 T cs D (fun w h => h) u0 q0 i0) b0 ?_
    refine wpAnyH_take (i := 1) (v := .agg cs) rfl hsel f1 c1 hQ.2 (yf_ld n1 e1 g p1 T cs D (fun w h => h) u0 q0 i0) b0 ?_
    have hg := blk_lt b0
    refine anyH_2 r0 rfl n2 rfl n3 (wp_al e2 zs hz fun g2 hg2 w1 h1 k1 => ⟨(k1.block g hg (fun h => h)).trans b0, ?_⟩) (wp_al e3 zs hz fun g3 hg3 w1 h1 k1 => ⟨(k1.block g hg (fun h => h)).trans b0, ?_⟩)
    · have b1 := (k1.block g hg (fun h => h)).trans b0
      refine anyH_1 r1 rfl n3 (wp_al e3 zs hz fun g3 hg3 w2 h2 k2 => ⟨(k2.block g (blk_lt b1) (fun h => h)).trans b1, ?_⟩)
      have l1 := blk_lt h1
      have s1 := k1.size
      have s2 : w.drew.heap.size = w.heap.size := rfl
      exact fin g2 g3 w2 (by omega) (by omega) (by omega) ((k2.block g2 l1 (fun h => h)).trans h1) h2 ((kd.trans k1).trans k2)
    · have b1 := (k1.block g hg (fun h => h)).trans b0
      refine anyH_1 r2 rfl n2 (wp_al e2 zs hz fun g2 hg2 w2 h2 k2 => ⟨(k2.block g (blk_lt b1) (fun h => h)).trans b1, ?_⟩)
      have l1 := blk_lt h1
      have s1 := k1.size
      have s2 : w.drew.heap.size = w.heap.size := rfl
      show wpAnyH P .any #[o0, o1, o2, o3, o4, o5] Q (fun W => W.heap[g]? = some (.cells cs T (0, 0))) 2 #[true, true, true, true, false, false] ((((a.put o0.dst (.agg cs)).put o1.dst (.agg cs)).put o3.dst (.pointer (some ⟨g3, 0, none⟩))).put o2.dst (.pointer (some ⟨g2, 0, none⟩))) w2
      rw [comm]
      exact fin g2 g3 w2 (by omega) (by omega) (by omega) h2 ((k2.block g3 l1 (fun h => h)).trans h1) ((kd.trans k1).trans k2)
end Go.Proofs.Ytnompdckpenfgaa.H
