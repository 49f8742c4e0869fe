/- Regions that draw their order, where each value of the head is known. -/
import Derived.Test.YtnompdckpenfgaaHslots
namespace Go.Proofs.Ytnompdckpenfgaa.H
open Go.RowKit Go.Proofs.YtnompdckpenfgaaW.PrintWords Go.Proofs.YtnompdckpenfgaaW.PrintLast Go.Proofs.Ytnompdckpenfgaa.PAl
set_option linter.unusedVariables false
set_option linter.unusedSimpArgs false
section
variable {P : Program} {ops : Array Oper} {Q : Exit → Act → World → Prop} {o : Oper} {F : Value → World → Prop} {a : Act} {w : World}
theorem sS_bin (hg : o.guard = none) {b : BinOp} {t t2 : TypeId} {x y : Operand} (ho : o.op = .binOp b t x y t2) (vx vy v : Value) (hx : a.eval x = vx) (hy : a.eval y = vy)
    (hrun : (do eqGuard b t x y vx vy; binOp b t vx vy : Sem Value).run P w = .ok v w) (hF : F v w) : stepS P ops Q o F a w := by
  refine sS_in (wanted_none hg _) ?_
  have hr : (execOp a.eval o).run P w = .ok (.value v) w := by
    unfold execOp
    simp only [ho, hx, hy]
    rw [Sem.run_bind, hrun]; rfl
  unfold Oper.wp
  rw [hr]
  exact ⟨v, rfl, hF⟩
theorem sS_load (hg : o.guard = none) {ty : TypeId} {x : Operand} (ho : o.op = .load ty x) (vx v : Value) (hx : a.eval x = vx) (hrun : (Instr.loadAt ty vx).run P w = .ok v w) (hF : F v w) : stepS P ops Q o F a w := by
  refine sS_in (wanted_none hg _) ?_
  have hr : (execOp a.eval o).run P w = .ok (.value v) w := by
    unfold execOp
    simp only [ho, hx, Sem.run_bind, hrun, Result.andThen_ok]
    rfl
  unfold Oper.wp
  rw [hr]
  exact ⟨v, rfl, hF⟩
theorem sS_fa (hg : o.guard = none) {s : TypeId} {x : Operand} {f : Nat} (ho : o.op = .fieldAddr s x f) (vx v : Value) (hx : a.eval x = vx) (hrun : (Instr.fieldAt s vx f).run P w = .ok v w) (hF : F v w) : stepS P ops Q o F a w := by
  refine sS_in (wanted_none hg _) ?_
  have hr : (execOp a.eval o).run P w = .ok (.value v) w := by
    unfold execOp
    simp only [ho, hx, Sem.run_bind, hrun, Result.andThen_ok]
    rfl
  unfold Oper.wp
  rw [hr]
  exact ⟨v, rfl, hF⟩
theorem sS_run (hg : o.guard = none) (v : Value) (w1 : World) (hrun : (execOp a.eval o).run P w = .ok (.value v) w1) (hF : F v w1) : stepS P ops Q o F a w := by
  refine sS_in (wanted_none hg _) ?_
  unfold Oper.wp
  rw [hrun]
  exact ⟨v, rfl, hF⟩
theorem sS_as (hg : o.guard = none) {x : Operand} (ho : o.op = .assign x) (hF : F (a.eval x) w) : stepS P ops Q o F a w := sS_in (wanted_none hg _) (wp_as ho ⟨_, rfl, hF⟩)
theorem sS_ex (hg : o.guard = none) {x : Operand} {j : Nat} (ho : o.op = .extract x j) (vs : Array Value) (v : Value) (hx : a.eval x = .tuple vs) (hj : vs[j]? = some v) (hF : F v w) : stepS P ops Q o F a w :=
  sS_in (wanted_none hg _) (wp_ex ho vs v hx hj ⟨_, rfl, hF⟩)
theorem putN_congr (a0 : Act) (d : Nat → Tmp) (u v : Nat → Value) : ∀ n, (∀ i, i < n → u i = v i) → putN a0 d u n = putN a0 d v n
  | 0, _ => rfl
  | n + 1, h => by unfold putN; rw [putN_congr a0 d u v n (fun i hi => h i (by omega)), h n (by omega)]
/-- The same where each value is known. -/
theorem wp_region_vals {id : Nat} {a0 : Act} (n g : Nat) (L0 : Array Bool) (d : Nat → Tmp) (V : Nat → Value) (hm : P.follows .mixedOrders = true) (hB : slotsR ops n L0 = true) (hg : n + g = ops.size)
    (hdst : ∀ i o, i < n → ops[i]? = some o → o.dst = some (d i)) (hd : ∀ i, i < n → d i < a0.tmps.size) (hinj : ∀ i j, i < n → j < n → d i = d j → i = j)
    (hstep : ∀ i o, i < n → ops[i]? = some o → ∀ a w', KpN w w' → Ag n d a0 a → (∀ j, j < n → Region.waitsFor .any ops i j = true → a.tmps.getD (d j) undef = V j) → stepS P ops Q o (fun v w'' => KpN w' w'' ∧ v = V i) a w')
    (hend : ∀ w', KpN w w' → wpAny P .any ops Q g L0 (putN a0 d V n) w') : (Code.region id ops true).wp P Q a0 w := by
  refine wp_region_slots n g L0 d (fun i v _ => v = V i) (fun _ => false) hm hB hg hdst hd hinj (fun _ _ _ _ _ h _ => h) ?_ ?_
  · intro i o hi ho a w' hk hA hdep
    have h := hstep i o hi ho a w' hk hA hdep
    unfold stepS at h ⊢
    split
    · next hw => rw [if_pos hw] at h; exact Oper.wp_mono (fun a' w'' h => by obtain ⟨v, e, h1, h2⟩ := h; exact ⟨v, e, h1, h2, fun h => by cases h⟩) h
    · next hw => rw [if_neg hw] at h; exact ⟨h.1, h.2, fun h => by cases h⟩
  · intro v w' hk hv _
    rw [putN_congr a0 d v V n hv]
    exact hend w' hk
end
end Go.Proofs.Ytnompdckpenfgaa.H
