/- Regions that draw their order and hold guarded operations: whether one is wanted, and its step. -/
import Derived.Test.YtnompdckpenfgaaHslots2
namespace Go.Proofs.Ytnompdckpenfgaa.H
open Go.RowKit Go.Proofs.YtnompdckpenfgaaW.PrintWords Go.Proofs.YtnompdckpenfgaaW.PrintLast Go.Proofs.Ytnompdckpenfgaa.PAl
set_option linter.unusedVariables false
set_option linter.unusedSimpArgs false
section
variable {P : Program} {ops : Array Oper} {Q : Exit → Act → World → Prop} {o : Oper} {F : Value → World → Prop} {a : Act} {w : World}
def boolOf : Value → Option Bool
  | .bool b => some b
  | _ => none
theorem yielded_of {j : Nat} {d : Tmp} {v : Value} (hd : (ops[j]?).bind (·.dst) = some d) (hv : a.tmps.getD d undef = v) : yielded ops a.tmps j = boolOf v := by
  unfold yielded
  rw [hd]
  simp only [Option.bind_some]
  rw [Array.getD_eq_getD_getElem?] at hv
  cases h : a.tmps[d]? with
  | none => rw [h] at hv; simp only [Option.getD_none] at hv; subst hv; rfl
  | some u => rw [h] at hv; simp only [Option.getD_some] at hv; subst hv; cases u <;> rfl
theorem wanted_y {j : Nat} {b : Bool} {d : Tmp} (hg : o.guard = some (j, b)) (hd : (ops[j]?).bind (·.dst) = some d) (hv : a.tmps.getD d undef = .bool b) : Region.wanted o (yielded ops a.tmps) = true := by
  unfold Region.wanted
  rw [hg]
  show (yielded ops a.tmps j == some b) = true
  rw [yielded_of hd hv]
  exact beq_self_eq_true _
theorem wanted_n {j : Nat} {b : Bool} {d : Tmp} {v : Value} (hg : o.guard = some (j, b)) (hd : (ops[j]?).bind (·.dst) = some d) (hv : a.tmps.getD d undef = v) (hn : boolOf v ≠ some b) : Region.wanted o (yielded ops a.tmps) = false := by
  unfold Region.wanted
  rw [hg]
  show (yielded ops a.tmps j == some b) = false
  rw [yielded_of hd hv]
  exact beq_eq_false_iff_ne.2 hn
variable (hw : Region.wanted o (yielded ops a.tmps) = true)
include hw
theorem gS_run (v : Value) (w1 : World) (hrun : (execOp a.eval o).run P w = .ok (.value v) w1) (hF : F v w1) : stepS P ops Q o F a w := by
  refine sS_in hw ?_
  unfold Oper.wp
  rw [hrun]
  exact ⟨v, rfl, hF⟩
theorem gS_ld {ty : TypeId} {x : Operand} (ho : o.op = .load ty x) (g : Nat) (hx : a.eval x = .pointer (some ⟨g, 0, none⟩)) (t : TypeId) (cs : Array Value) (d : TypeDesc)
    (hb : w.heap[g]? = some (.cells cs t (0, 0))) (hu : P.underlying ty = some d) (hd : (match d with | .struct _ | .array _ _ => true | _ => false) = true) (hi : (P.info? ty).map (·.size) = some cs.size)
    (hF : F (.agg cs) w) : stepS P ops Q o F a w := sS_in hw (wp_ld ho g hx t cs d hb hu hd hi ⟨_, rfl, hF⟩)
theorem gS_mv {x : Operand} (ho : o.op = .move x) (v : Value) (hx : a.eval x = v) (hF : F v w) : stepS P ops Q o F a w := sS_in hw (wp_mv ho ⟨_, rfl, by rw [hx]; exact hF⟩)
theorem gS_ca {f : FuncId} {fn : Func} {as_ : Array Operand} {ts : Array TypeId} (hop : o.op = .call { callee := .value (.func f), args := as_, argTypes := ts })
    (hf : P.funcs[f]? = some fn) (hname : (fn.name == "runtime.NumGoroutine") = false) (hb : fn.body.isSome = true) (args : Array Value) (hargs : as_.map a.eval = args)
    (h : Calls P f args w fun e w' => ∃ v, e = .returned v ∧ F v w') : stepS P ops Q o F a w :=
  sS_in hw (wp_ca hop hf hname hb args hargs (h.mono fun e w' h => by obtain ⟨v, he, hF⟩ := h; exact ⟨v, he, v, rfl, hF⟩))
theorem gS_bin {b : BinOp} {t t2 : TypeId} {x y : Operand} (ho : o.op = .binOp b t x y t2) (vx vy v : Value) (hx : a.eval x = vx) (hy : a.eval y = vy)
    (hrun : (do eqGuard b t x y vx vy; binOp b t vx vy : Sem Value).run P w = .ok v w) (hF : F v w) : stepS P ops Q o F a w := by
  refine gS_run hw v w ?_ hF
  unfold execOp
  simp only [ho, hx, hy]
  rw [Sem.run_bind, hrun]; rfl
theorem gS_un {u : UnOp} {t : TypeId} {x : Operand} (ho : o.op = .unOp u t x) (vx v : Value) (hx : a.eval x = vx) (hrun : (Op.unary u vx).run P w = .ok v w) (hF : F v w) : stepS P ops Q o F a w := by
  refine gS_run hw v w ?_ hF
  unfold execOp
  simp only [ho, hx]
  rw [Sem.run_bind, hrun]; rfl
theorem gS_pick {c x y : Operand} (ho : o.op = .pick c x y) (b : Bool) (v : Value) (hc : a.eval c = .bool b) (hv : (if b = true then a.eval x else a.eval y) = v) (hF : F v w) : stepS P ops Q o F a w := by
  refine gS_run hw v w ?_ hF
  unfold execOp
  simp only [ho, hc]
  rw [← hv]
  cases b <;> rfl
theorem gS_load {ty : TypeId} {x : Operand} (ho : o.op = .load ty x) (vx v : Value) (hx : a.eval x = vx) (hrun : (Instr.loadAt ty vx).run P w = .ok v w) (hF : F v w) : stepS P ops Q o F a w := by
  refine gS_run hw v w ?_ hF
  unfold execOp
  simp only [ho, hx]
  rw [Sem.run_bind, hrun]; rfl
theorem gS_fa {s : TypeId} {x : Operand} {f : Nat} (ho : o.op = .fieldAddr s x f) (vx v : Value) (hx : a.eval x = vx) (hrun : (Instr.fieldAt s vx f).run P w = .ok v w) (hF : F v w) : stepS P ops Q o F a w := by
  refine gS_run hw v w ?_ hF
  unfold execOp
  simp only [ho, hx]
  rw [Sem.run_bind, hrun]; rfl
theorem gS_ia {s : TypeId} {x y : Operand} (ho : o.op = .indexAddr s x y) (vx vy v : Value) (hx : a.eval x = vx) (hy : a.eval y = vy) (hrun : (Instr.indexAt s vx vy).run P w = .ok v w) (hF : F v w) : stepS P ops Q o F a w := by
  refine gS_run hw v w ?_ hF
  unfold execOp
  simp only [ho, hx, hy]
  rw [Sem.run_bind, hrun]; rfl
theorem gS_bd {t : TypeId} {parts : Array (Nat × Operand)} (ho : o.op = .build t parts) (ps : Array (Nat × Value)) (v : Value) (hps : (parts.map fun (i, x) => (i, a.eval x)) = ps) (hrun : (Instr.build t ps).run P w = .ok v w) (hF : F v w) : stepS P ops Q o F a w := by
  refine gS_run hw v w ?_ hF
  unfold execOp
  simp only [ho, hps]
  rw [Sem.run_bind, hrun]; rfl
theorem gS_nc {x : Operand} (ho : o.op = .nilCheck x) (p : Addr) (hx : a.eval x = .pointer (some p)) (hF : F (.pointer (some p)) w) : stepS P ops Q o F a w := by
  refine gS_run hw _ w ?_ hF
  unfold execOp
  simp only [ho, hx]
  rfl
theorem gS_al {t : TypeId} (ho : o.op = .alloc t) (cs : Array Value) (hz : (zeroValue t).run P w = .ok (.agg cs) w)
    (h : ∀ g, g = w.heap.size → ∀ w1, w1.heap[g]? = some (.cells cs t (0, 0)) → KpN w w1 → F (.pointer (some ⟨g, 0, none⟩)) w1) : stepS P ops Q o F a w := by
  refine sS_in hw ?_
  have hrun : (execOp a.eval o).run P w = .ok (.value (.pointer (some ⟨w.heap.size, 0, none⟩))) (w.alloc (.cells cs t (0, 0))) := by
    unfold execOp
    simp only [ho, Instr.alloc, Sem.run_bind, hz, Result.andThen_ok]
    rfl
  unfold Oper.wp
  rw [hrun]
  exact ⟨_, rfl, h _ rfl _ (by simpa using heap_alloc_new w _) ((Kp.refl _ _).alloc _)⟩
theorem gS_as {x : Operand} (ho : o.op = .assign x) (v : Value) (hx : a.eval x = v) (hF : F v w) : stepS P ops Q o F a w := sS_in hw (wp_as ho ⟨_, rfl, by rw [hx]; exact hF⟩)
end
end Go.Proofs.Ytnompdckpenfgaa.H
