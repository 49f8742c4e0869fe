/- Regions whose values are known; Of; the law of ways. -/
import Derived.Test.YtlhdildnekllhaaTc
import Derived.Test.YtlhdildnekllhaaTa
import Derived.Test.YtlhdildnekllhaaTb
/- Regions that draw their order, where each value of the head is known. -/
namespace Go.Proofs.Ytlhdildnekllhaa.H
open Go.RowKit Go.Proofs.YtlhdildnekllhaaW.PrintWords Go.Proofs.YtlhdildnekllhaaW.PrintLast Go.Proofs.Ytlhdildnekllhaa.PAl
set_option linter.unusedVariables false
set_option linter.unusedSimpArgs false
section
variable {P : Program} {ops : Array Oper} {Q : Exit → Act → World → Prop} {o : Oper} {F : Value → World → Prop} {a : Act} {w : World}
theorem sS_bin (hg : o.guard = none) {b : BinOp} {t t2 : TypeId} {x y : Operand} (ho : o.op = .binOp b t x y t2) (vx vy v : Value) (hx : a.eval x = vx) (hy : a.eval y = vy)
    (hrun : (do eqGuard b t x y vx vy; binOp b t vx vy : Sem Value).run P w = .ok v w) (hF : F v w) : stepS P ops Q o F a w := by
  refine sS_in (wanted_none hg _) ?_
  have hr : (execOp a.eval o).run P w = .ok (.value v) w := by
    unfold execOp
    simp only [ho, hx, hy]
    rw [Sem.run_bind, hrun]; rfl
  unfold Oper.wp
  rw [hr]
  exact ⟨v, rfl, hF⟩
theorem sS_load (hg : o.guard = none) {ty : TypeId} {x : Operand} (ho : o.op = .load ty x) (vx v : Value) (hx : a.eval x = vx) (hrun : (Instr.loadAt ty vx).run P w = .ok v w) (hF : F v w) : stepS P ops Q o F a w := by
  refine sS_in (wanted_none hg _) ?_
  have hr : (execOp a.eval o).run P w = .ok (.value v) w := by
    unfold execOp
    simp only [ho, hx, Sem.run_bind, hrun, Result.andThen_ok]
    rfl
  unfold Oper.wp
  rw [hr]
  exact ⟨v, rfl, hF⟩
theorem sS_fa (hg : o.guard = none) {s : TypeId} {x : Operand} {f : Nat} (ho : o.op = .fieldAddr s x f) (vx v : Value) (hx : a.eval x = vx) (hrun : (Instr.fieldAt s vx f).run P w = .ok v w) (hF : F v w) : stepS P ops Q o F a w := by
  refine sS_in (wanted_none hg _) ?_
  have hr : (execOp a.eval o).run P w = .ok (.value v) w := by
    unfold execOp
    simp only [ho, hx, Sem.run_bind, hrun, Result.andThen_ok]
    rfl
  unfold Oper.wp
  rw [hr]
  exact ⟨v, rfl, hF⟩
theorem sS_run (hg : o.guard = none) (v : Value) (w1 : World) (hrun : (execOp a.eval o).run P w = .ok (.value v) w1) (hF : F v w1) : stepS P ops Q o F a w := by
  refine sS_in (wanted_none hg _) ?_
  unfold Oper.wp
  rw [hrun]
  exact ⟨v, rfl, hF⟩
theorem sS_as (hg : o.guard = none) {x : Operand} (ho : o.op = .assign x) (hF : F (a.eval x) w) : stepS P ops Q o F a w := sS_in (wanted_none hg _) (wp_as ho ⟨_, rfl, hF⟩)
theorem sS_ex (hg : o.guard = none) {x : Operand} {j : Nat} (ho : o.op = .extract x j) (vs : Array Value) (v : Value) (hx : a.eval x = .tuple vs) (hj : vs[j]? = some v) (hF : F v w) : stepS P ops Q o F a w :=
  sS_in (wanted_none hg _) (wp_ex ho vs v hx hj ⟨_, rfl, hF⟩)
theorem putN_congr (a0 : Act) (d : Nat → Tmp) (u v : Nat → Value) : ∀ n, (∀ i, i < n → u i = v i) → putN a0 d u n = putN a0 d v n
  | 0, _ => rfl
  | n + 1, h => by unfold putN; rw [putN_congr a0 d u v n (fun i hi => h i (by omega)), h n (by omega)]
/-- The same where each value is known. -/
theorem wp_region_vals {id : Nat} {a0 : Act} (n g : Nat) (L0 : Array Bool) (d : Nat → Tmp) (V : Nat → Value) (hm : P.follows .mixedOrders = true) (hB : slotsR ops n L0 = true) (hg : n + g = ops.size)
    (hdst : ∀ i o, i < n → ops[i]? = some o → o.dst = some (d i)) (hd : ∀ i, i < n → d i < a0.tmps.size) (hinj : ∀ i j, i < n → j < n → d i = d j → i = j)
    (hstep : ∀ i o, i < n → ops[i]? = some o → ∀ a w', KpN w w' → Ag n d a0 a → (∀ j, j < n → Region.waitsFor .any ops i j = true → a.tmps.getD (d j) undef = V j) → stepS P ops Q o (fun v w'' => KpN w' w'' ∧ v = V i) a w')
    (hend : ∀ w', KpN w w' → wpAny P .any ops Q g L0 (putN a0 d V n) w') : (Code.region id ops true).wp P Q a0 w := by
  refine wp_region_slots n g L0 d (fun i v _ => v = V i) (fun _ => false) hm hB hg hdst hd hinj (fun _ _ _ _ _ h _ => h) ?_ ?_
  · intro i o hi ho a w' hk hA hdep
    have h := hstep i o hi ho a w' hk hA hdep
    unfold stepS at h ⊢
    split
    · next hw => rw [if_pos hw] at h; exact Oper.wp_mono (fun a' w'' h => by obtain ⟨v, e, h1, h2⟩ := h; exact ⟨v, e, h1, h2, fun h => by cases h⟩) h
    · next hw => rw [if_neg hw] at h; exact ⟨h.1, h.2, fun h => by cases h⟩
  · intro v w' hk hv _
    rw [putN_congr a0 d v V n hv]
    exact hend w' hk
end
end Go.Proofs.Ytlhdildnekllhaa.H
/- Regions that draw their order and hold guarded operations: whether one is wanted, and its step. -/
namespace Go.Proofs.Ytlhdildnekllhaa.H
open Go.RowKit Go.Proofs.YtlhdildnekllhaaW.PrintWords Go.Proofs.YtlhdildnekllhaaW.PrintLast Go.Proofs.Ytlhdildnekllhaa.PAl
set_option linter.unusedVariables false
set_option linter.unusedSimpArgs false
section
variable {P : Program} {ops : Array Oper} {Q : Exit → Act → World → Prop} {o : Oper} {F : Value → World → Prop} {a : Act} {w : World}
def boolOf : Value → Option Bool
  | .bool b => some b
  | _ => none
theorem yielded_of {j : Nat} {d : Tmp} {v : Value} (hd : (ops[j]?).bind (·.dst) = some d) (hv : a.tmps.getD d undef = v) : yielded ops a.tmps j = boolOf v := by
  unfold yielded
  rw [hd]
  simp only [Option.bind_some]
  rw [Array.getD_eq_getD_getElem?] at hv
  cases h : a.tmps[d]? with
  | none => rw [h] at hv; simp only [Option.getD_none] at hv; subst hv; rfl
  | some u => rw [h] at hv; simp only [Option.getD_some] at hv; subst hv; cases u <;> rfl
theorem wanted_y {j : Nat} {b : Bool} {d : Tmp} (hg : o.guard = some (j, b)) (hd : (ops[j]?).bind (·.dst) = some d) (hv : a.tmps.getD d undef = .bool b) : Region.wanted o (yielded ops a.tmps) = true := by
  unfold Region.wanted
  rw [hg]
  show (yielded ops a.tmps j == some b) = true
  rw [yielded_of hd hv]
  exact beq_self_eq_true _
theorem wanted_n {j : Nat} {b : Bool} {d : Tmp} {v : Value} (hg : o.guard = some (j, b)) (hd : (ops[j]?).bind (·.dst) = some d) (hv : a.tmps.getD d undef = v) (hn : boolOf v ≠ some b) : Region.wanted o (yielded ops a.tmps) = false := by
  unfold Region.wanted
  rw [hg]
  show (yielded ops a.tmps j == some b) = false
  rw [yielded_of hd hv]
  exact beq_eq_false_iff_ne.2 hn
variable (hw : Region.wanted o (yielded ops a.tmps) = true)
include hw
theorem gS_run (v : Value) (w1 : World) (hrun : (execOp a.eval o).run P w = .ok (.value v) w1) (hF : F v w1) : stepS P ops Q o F a w := by
  refine sS_in hw ?_
  unfold Oper.wp
  rw [hrun]
  exact ⟨v, rfl, hF⟩
theorem gS_ld {ty : TypeId} {x : Operand} (ho : o.op = .load ty x) (g : Nat) (hx : a.eval x = .pointer (some ⟨g, 0, none⟩)) (t : TypeId) (cs : Array Value) (d : TypeDesc)
    (hb : w.heap[g]? = some (.cells cs t (0, 0))) (hu : P.underlying ty = some d) (hd : (match d with | .struct _ | .array _ _ => true | _ => false) = true) (hi : (P.info? ty).map (·.size) = some cs.size)
    (hF : F (.agg cs) w) : stepS P ops Q o F a w := sS_in hw (wp_ld ho g hx t cs d hb hu hd hi ⟨_, rfl, hF⟩)
theorem gS_mv {x : Operand} (ho : o.op = .move x) (v : Value) (hx : a.eval x = v) (hF : F v w) : stepS P ops Q o F a w := sS_in hw (wp_mv ho ⟨_, rfl, by rw [hx]; exact hF⟩)
theorem gS_ca {f : FuncId} {fn : Func} {as_ : Array Operand} {ts : Array TypeId} (hop : o.op = .call { callee := .value (.func f), args := as_, argTypes := ts })
    (hf : P.funcs[f]? = some fn) (hname : (fn.name == "runtime.NumGoroutine") = false) (hb : fn.body.isSome = true) (args : Array Value) (hargs : as_.map a.eval = args)
    (h : Calls P f args w fun e w' => ∃ v, e = .returned v ∧ F v w') : stepS P ops Q o F a w :=
  sS_in hw (wp_ca hop hf hname hb args hargs (h.mono fun e w' h => by obtain ⟨v, he, hF⟩ := h; exact ⟨v, he, v, rfl, hF⟩))
theorem gS_bin {b : BinOp} {t t2 : TypeId} {x y : Operand} (ho : o.op = .binOp b t x y t2) (vx vy v : Value) (hx : a.eval x = vx) (hy : a.eval y = vy)
    (hrun : (do eqGuard b t x y vx vy; binOp b t vx vy : Sem Value).run P w = .ok v w) (hF : F v w) : stepS P ops Q o F a w := by
  refine gS_run hw v w ?_ hF
  unfold execOp
  simp only [ho, hx, hy]
  rw [Sem.run_bind, hrun]; rfl
theorem gS_un {u : UnOp} {t : TypeId} {x : Operand} (ho : o.op = .unOp u t x) (vx v : Value) (hx : a.eval x = vx) (hrun : (Op.unary u vx).run P w = .ok v w) (hF : F v w) : stepS P ops Q o F a w := by
  refine gS_run hw v w ?_ hF
  unfold execOp
  simp only [ho, hx]
  rw [Sem.run_bind, hrun]; rfl
theorem gS_pick {c x y : Operand} (ho : o.op = .pick c x y) (b : Bool) (v : Value) (hc : a.eval c = .bool b) (hv : (if b = true then a.eval x else a.eval y) = v) (hF : F v w) : stepS P ops Q o F a w := by
  refine gS_run hw v w ?_ hF
  unfold execOp
  simp only [ho, hc]
  rw [← hv]
  cases b <;> rfl
theorem gS_load {ty : TypeId} {x : Operand} (ho : o.op = .load ty x) (vx v : Value) (hx : a.eval x = vx) (hrun : (Instr.loadAt ty vx).run P w = .ok v w) (hF : F v w) : stepS P ops Q o F a w := by
  refine gS_run hw v w ?_ hF
  unfold execOp
  simp only [ho, hx]
  rw [Sem.run_bind, hrun]; rfl
theorem gS_fa {s : TypeId} {x : Operand} {f : Nat} (ho : o.op = .fieldAddr s x f) (vx v : Value) (hx : a.eval x = vx) (hrun : (Instr.fieldAt s vx f).run P w = .ok v w) (hF : F v w) : stepS P ops Q o F a w := by
  refine gS_run hw v w ?_ hF
  unfold execOp
  simp only [ho, hx]
  rw [Sem.run_bind, hrun]; rfl
theorem gS_ia {s : TypeId} {x y : Operand} (ho : o.op = .indexAddr s x y) (vx vy v : Value) (hx : a.eval x = vx) (hy : a.eval y = vy) (hrun : (Instr.indexAt s vx vy).run P w = .ok v w) (hF : F v w) : stepS P ops Q o F a w := by
  refine gS_run hw v w ?_ hF
  unfold execOp
  simp only [ho, hx, hy]
  rw [Sem.run_bind, hrun]; rfl
theorem gS_bd {t : TypeId} {parts : Array (Nat × Operand)} (ho : o.op = .build t parts) (ps : Array (Nat × Value)) (v : Value) (hps : (parts.map fun (i, x) => (i, a.eval x)) = ps) (hrun : (Instr.build t ps).run P w = .ok v w) (hF : F v w) : stepS P ops Q o F a w := by
  refine gS_run hw v w ?_ hF
  unfold execOp
  simp only [ho, hps]
  rw [Sem.run_bind, hrun]; rfl
theorem gS_nc {x : Operand} (ho : o.op = .nilCheck x) (p : Addr) (hx : a.eval x = .pointer (some p)) (hF : F (.pointer (some p)) w) : stepS P ops Q o F a w := by
  refine gS_run hw _ w ?_ hF
  unfold execOp
  simp only [ho, hx]
  rfl
theorem gS_al {t : TypeId} (ho : o.op = .alloc t) (cs : Array Value) (hz : (zeroValue t).run P w = .ok (.agg cs) w)
    (h : ∀ g, g = w.heap.size → ∀ w1, w1.heap[g]? = some (.cells cs t (0, 0)) → KpN w w1 → F (.pointer (some ⟨g, 0, none⟩)) w1) : stepS P ops Q o F a w := by
  refine sS_in hw ?_
  have hrun : (execOp a.eval o).run P w = .ok (.value (.pointer (some ⟨w.heap.size, 0, none⟩))) (w.alloc (.cells cs t (0, 0))) := by
    unfold execOp
    simp only [ho, Instr.alloc, Sem.run_bind, hz, Result.andThen_ok]
    rfl
  unfold Oper.wp
  rw [hrun]
  exact ⟨_, rfl, h _ rfl _ (by simpa using heap_alloc_new w _) ((Kp.refl _ _).alloc _)⟩
theorem gS_as {x : Operand} (ho : o.op = .assign x) (v : Value) (hx : a.eval x = v) (hF : F v w) : stepS P ops Q o F a w := sS_in hw (wp_as ho ⟨_, rfl, by rw [hx]; exact hF⟩)
end
end Go.Proofs.Ytlhdildnekllhaa.H
/- sv39.Of, walked by hand: how an access is made as a program runs. Printed by wip/tools/walkof.py. -/
namespace Go.Proofs.Ytlhdildnekllhaa.H
open Go.RowKit Go.Proofs.YtlhdildnekllhaaW.PrintWords Go.Proofs.YtlhdildnekllhaaW.PrintLast Go.Proofs.Ytlhdildnekllhaa.PAl Go.Proofs.Ytlhdildnekllhaa.Pure Go.Proofs.Ytlhdildnekllhaa.Vw
set_option linter.unusedVariables false
set_option linter.unusedSimpArgs false
abbrev Y2 : TypeId := 25
theorem infoY2 : (Try.prog.info? Y2).map (·.size) = some 5 := by kernel_rfl
abbrev zY : Array Value := #[.int .u64 0, .int .i64 0, .int .i64 0, .bool false, .bool false]
theorem zeroY (w : World) : (zeroValue YT).run Try.prog w = .ok (.agg zY) w := by kernel_rfl
theorem zeroY2 (w : World) : (zeroValue Y2).run Try.prog w = .ok (.agg zY) w := by kernel_rfl
theorem wayC_one (sp : Nat) (kd md : Int) (sum mxr : Bool) : (wayC sp kd md sum mxr).all (·.oneCell') = true := by simp [Value.oneCell']
theorem fa54_19 (y : Nat) (w : World) : (Instr.fieldAt 54 (.pointer (some ⟨y, 0, none⟩)) 19).run Try.prog w = .ok (.pointer (some ⟨y, 19, none⟩)) w := by kernel_rfl
theorem fa54_0 (y : Nat) (w : World) : (Instr.fieldAt 54 (.pointer (some ⟨y, 0, none⟩)) 0).run Try.prog w = .ok (.pointer (some ⟨y, 0, none⟩)) w := by kernel_rfl
theorem ld23w (p : Addr) (v : Value) (w : World) (h : w.cell? p = some v) : (Instr.loadAt 23 (.pointer (some p))).run Try.prog w = .ok v w := by
  go_simp
theorem ld38 (p : Addr) (v : Value) (w : World) (h : w.cell? p = some v) : (Instr.loadAt 38 (.pointer (some p))).run Try.prog w = .ok v w := by
  go_simp
theorem bd40 (a b c : Int) (x y : Bool) (w : World) : (Instr.build 40 #[(0, .int .u64 a), (1, .int .i64 b), (2, .int .i64 c), (3, .bool x), (4, .bool y)]).run Try.prog w = .ok (.agg #[.int .u64 a, .int .i64 b, .int .i64 c, .bool x, .bool y]) w := by kernel_rfl
def dO (i : Nat) : Tmp := match i with | 0 => 6 | 1 => 7 | 2 => 8 | 3 => 9 | 4 => 10 | 5 => 11 | 6 => 12 | 7 => 13 | 8 => 14 | 9 => 15 | 10 => 16 | 11 => 17 | 12 => 18 | 13 => 19 | _ => 5
def rO (w0 : World) (g : Nat) (s : VS) (kd : Int) (i : Nat) (v : Value) (w : World) : Prop := match i with
  | 0 => v = .pointer (some ⟨g, 0, none⟩) | 1 => v = .pointer (some ⟨g, 0, none⟩) | 2 => v = .pointer (some ⟨g, 19, none⟩) | 3 => v = .int .u64 (s.r 19 : Int) | 4 => v = .int .i64 kd | 5 => v = .pointer (some ⟨g, 0, none⟩) | 6 => v = .pointer (some ⟨g, 0, none⟩) | 7 => v = .pointer (some ⟨g, 0, none⟩) | 8 => v = .int .i64 s.m | 9 => v = .pointer (some ⟨g, 0, none⟩) | 10 => v = .bool (bitW (s.r 1) 18) | 11 => v = .pointer (some ⟨g, 0, none⟩) | 12 => v = .bool (bitW (s.r 1) 19) | 13 => v = .agg (wayC (s.r 19) kd s.m (bitW (s.r 1) 18) (bitW (s.r 1) 19))
  | _ => ∃ x, v = .pointer (some ⟨x, 0, none⟩) ∧ w.heap[x]? = some (.cells zY YT (0, 0)) ∧ w0.heap.size ≤ x
theorem rO_stab {w0 : World} {g : Nat} {s : VS} {kd : Int} (i : Nat) (v : Value) (w w' : World) (h : rO w0 g s kd i v w) (hk : KpN w w') : rO w0 g s kd i v w' := by
  rcases i with _ | _ | _ | _ | _ | _ | _ | _ | _ | _ | _ | _ | _ | _ | i
  · exact h
  · exact h
  · exact h
  · exact h
  · exact h
  · exact h
  · exact h
  · exact h
  · exact h
  · exact h
  · exact h
  · exact h
  · exact h
  · exact h
  · obtain ⟨x, e, hb, hx⟩ := h
    exact ⟨x, e, (hk.block x (blk_lt hb) (fun h => h)).trans hb, hx⟩
/-- The mode that an access has. -/
def ofM (s : VS) (kd : Int) : Int := if kd ≠ 0 ∧ s.m = 3 ∧ bitW (s.r 1) 17 = true then ((getW (s.r 1) 11 2 : Nat) : Int) else s.m
set_option maxHeartbeats 8000000 in
set_option maxRecDepth 100000 in
theorem sv_of_c (g : Nat) (s : VS) (kd : Int) (w : World) (hI : St FT w g s) (hs : s.ok) :
    Calls Try.prog 23 #[.pointer (some ⟨g, 0, none⟩), .int .i64 kd] w fun e w' => e = .returned (.agg (wayC (s.r 19) kd (ofM s kd) (bitW (s.r 1) 18) (bitW (s.r 1) 19))) ∧ KpN w w' := by
  have HS := Aside0.mk hs
  have HI := Aside0.mk hI
  have IS : Aside0 (∀ W, St FT W g s → Calls Try.prog 28 #[.pointer (some ⟨g, 0, none⟩), .int .i64 17] W fun e w' => e = .returned (.bool (bitW (s.r 1) 17)) ∧ KpN W w') := ⟨fun W h => (is_c g s 17 W h hs).mono fun e w' q => ⟨q.1, by obtain ⟨m, hm⟩ := q.2; rw [hm]; exact (Kp.refl _ _).drewN m⟩⟩
  have PV : Aside0 (∀ W, St FT W g s → Calls Try.prog 49 #[.pointer (some ⟨g, 0, none⟩)] W fun e w' => e = .returned (.int .i64 ((getW (s.r 1) 11 2 : Nat) : Int)) ∧ KpN W w') := ⟨fun W h => (previous_c g s W h hs).mono fun e w' q => ⟨q.1, by obtain ⟨m, hm⟩ := q.2; rw [hm]; exact (Kp.refl _ _).drewN m⟩⟩
  have cases4 : (kd = 0 ∧ ofM s kd = s.m) ∨ (kd ≠ 0 ∧ s.m ≠ 3 ∧ ofM s kd = s.m) ∨ (kd ≠ 0 ∧ s.m = 3 ∧ bitW (s.r 1) 17 = false ∧ ofM s kd = s.m) ∨ (kd ≠ 0 ∧ s.m = 3 ∧ bitW (s.r 1) 17 = true ∧ ofM s kd = ((getW (s.r 1) 11 2 : Nat) : Int)) := by
    unfold ofM
    by_cases h0 : kd = 0
    · exact .inl ⟨h0, if_neg fun h => h.1 h0⟩
    by_cases h1 : s.m = 3
    · cases hb : bitW (s.r 1) 17
      · exact .inr (.inr (.inl ⟨h0, h1, rfl, if_neg fun h => by cases h.2.2⟩))
      · exact .inr (.inr (.inr ⟨h0, h1, rfl, if_pos ⟨h0, h1, rfl⟩⟩))
    · exact .inr (.inl ⟨h0, h1, if_neg fun h => h1 h.2.1⟩)
  have C4 := Aside0.mk cases4
  clear hI hs cases4
  go_enter Try.func23, Try.ntmps23
  go_wp2_with (first
    | ((with_reducible refine gate_dst (N := 4) rfl ?_); refine al_ev rfl rfl (N := 4) rfl _ (zeroY _) ?_; intro r hg_r w1 hb_r hk_r; have Hg_r := Aside0.mk hg_r; clear hg_r))
  have hI1 := HI.out.kp hk_r (fun h => h)
  have Z1 : Bk w1 r zY YT := ⟨hb_r⟩
  have hwr : Aside0 (w.heap.size ≤ r) := ⟨by have := Hg_r.out; omega⟩
  have N1 : KpN w w1 := hk_r
  clear hb_r hk_r Hg_r
  refine wp_region_slots 15 1 #[true, true, true, true, true, true, true, true, true, true, true, true, true, true, true, false] dO (rO w1 g s kd) (fun i => decide (14 ≤ i)) (by kernel_rfl) (by kernel_rfl) rfl ?_ ?_ ?_ (fun i v w w' _ => rO_stab i v w w') ?_ ?_
  · intro i o hi ho
    rcases i with _ | _ | _ | _ | _ | _ | _ | _ | _ | _ | _ | _ | _ | _ | _ | i
    all_goals first | (cases ho; rfl) | omega
  · intro i hi
    rcases i with _ | _ | _ | _ | _ | _ | _ | _ | _ | _ | _ | _ | _ | _ | _ | i
    all_goals first | (show (_ : Nat) < 37; decide) | omega
  · intro i j hi hj h
    rcases i with _ | _ | _ | _ | _ | _ | _ | _ | _ | _ | _ | _ | _ | _ | _ | i
    all_goals rcases j with _ | _ | _ | _ | _ | _ | _ | _ | _ | _ | _ | _ | _ | _ | _ | j
    all_goals first | rfl | omega | (exact absurd h (by decide))
  · intro i o hi ho a' W hW hA hdep
    rcases i with _ | _ | _ | _ | _ | _ | _ | _ | _ | _ | _ | _ | _ | _ | _ | i
    · cases ho
      have h0 : a'.tmps.getD 0 undef = .pointer (some ⟨g, 0, none⟩) := hA.old 0 (by decide)
      exact gS_mv (wanted_none rfl _) rfl _ h0 ⟨Kp.refl _ _, rfl, fun h => by cases h⟩
    · cases ho
      have h0 : a'.tmps.getD 6 undef = .pointer (some ⟨g, 0, none⟩) := hdep 0 (by decide) (by kernel_rfl)
      exact gS_nc (wanted_none rfl _) rfl _ h0 ⟨Kp.refl _ _, rfl, fun h => by cases h⟩
    · cases ho
      have h0 : a'.tmps.getD 7 undef = .pointer (some ⟨g, 0, none⟩) := hdep 1 (by decide) (by kernel_rfl)
      exact gS_fa (wanted_none rfl _) rfl _ _ h0 (fa54_19 g W) ⟨Kp.refl _ _, rfl, fun h => by cases h⟩
    · cases ho
      have h0 : a'.tmps.getD 8 undef = .pointer (some ⟨g, 19, none⟩) := hdep 2 (by decide) (by kernel_rfl)
      exact gS_load (wanted_none rfl _) rfl _ _ h0 (ld23w _ _ W ((hI1.kp hW (fun h => h)).c 19)) ⟨Kp.refl _ _, rfl, fun h => by cases h⟩
    · cases ho
      have h0 : a'.tmps.getD 1 undef = .int .i64 kd := hA.old 1 (by decide)
      exact gS_mv (wanted_none rfl _) rfl _ h0 ⟨Kp.refl _ _, rfl, fun h => by cases h⟩
    · cases ho
      have h0 : a'.tmps.getD 0 undef = .pointer (some ⟨g, 0, none⟩) := hA.old 0 (by decide)
      exact gS_mv (wanted_none rfl _) rfl _ h0 ⟨Kp.refl _ _, rfl, fun h => by cases h⟩
    · cases ho
      have h0 : a'.tmps.getD 11 undef = .pointer (some ⟨g, 0, none⟩) := hdep 5 (by decide) (by kernel_rfl)
      exact gS_nc (wanted_none rfl _) rfl _ h0 ⟨Kp.refl _ _, rfl, fun h => by cases h⟩
    · cases ho
      have h0 : a'.tmps.getD 12 undef = .pointer (some ⟨g, 0, none⟩) := hdep 6 (by decide) (by kernel_rfl)
      exact gS_fa (wanted_none rfl _) rfl _ _ h0 (fa54_0 g W) ⟨Kp.refl _ _, rfl, fun h => by cases h⟩
    · cases ho
      have h0 : a'.tmps.getD 13 undef = .pointer (some ⟨g, 0, none⟩) := hdep 7 (by decide) (by kernel_rfl)
      exact gS_load (wanted_none rfl _) rfl _ _ h0 (ld38 _ _ W ((hI1.kp hW (fun h => h)).c0)) ⟨Kp.refl _ _, rfl, fun h => by cases h⟩
    · cases ho
      have h0 : a'.tmps.getD 0 undef = .pointer (some ⟨g, 0, none⟩) := hA.old 0 (by decide)
      exact gS_mv (wanted_none rfl _) rfl _ h0 ⟨Kp.refl _ _, rfl, fun h => by cases h⟩
    · cases ho
      have h0 : a'.eval (.tmp 15) = .pointer (some ⟨g, 0, none⟩) := hdep 9 (by decide) (by kernel_rfl)
      refine gS_ca (wanted_none rfl _) rfl Try.func28 (by kernel_rfl) rfl #[.pointer (some ⟨g, 0, none⟩), .int .i64 18] (by simp only [List.map_toArray, List.map_cons, List.map_nil]; rw [h0]; rfl) ?_
      exact (is_c g s 18 W (hI1.kp hW (fun h => h)) HS.out).mono fun e w' h => ⟨_, h.1, by obtain ⟨m, hm⟩ := h.2; rw [hm]; exact (Kp.refl _ _).drewN m, rfl, fun h => by cases h⟩
    · cases ho
      have h0 : a'.tmps.getD 0 undef = .pointer (some ⟨g, 0, none⟩) := hA.old 0 (by decide)
      exact gS_mv (wanted_none rfl _) rfl _ h0 ⟨Kp.refl _ _, rfl, fun h => by cases h⟩
    · cases ho
      have h0 : a'.eval (.tmp 17) = .pointer (some ⟨g, 0, none⟩) := hdep 11 (by decide) (by kernel_rfl)
      refine gS_ca (wanted_none rfl _) rfl Try.func28 (by kernel_rfl) rfl #[.pointer (some ⟨g, 0, none⟩), .int .i64 19] (by simp only [List.map_toArray, List.map_cons, List.map_nil]; rw [h0]; rfl) ?_
      exact (is_c g s 19 W (hI1.kp hW (fun h => h)) HS.out).mono fun e w' h => ⟨_, h.1, by obtain ⟨m, hm⟩ := h.2; rw [hm]; exact (Kp.refl _ _).drewN m, rfl, fun h => by cases h⟩
    · cases ho
      have h0 : a'.eval (.tmp 9) = .int .u64 (s.r 19 : Int) := hdep 3 (by decide) (by kernel_rfl)
      have h1 : a'.eval (.tmp 10) = .int .i64 kd := hdep 4 (by decide) (by kernel_rfl)
      have h2 : a'.eval (.tmp 14) = .int .i64 s.m := hdep 8 (by decide) (by kernel_rfl)
      have h3 : a'.eval (.tmp 16) = .bool (bitW (s.r 1) 18) := hdep 10 (by decide) (by kernel_rfl)
      have h4 : a'.eval (.tmp 18) = .bool (bitW (s.r 1) 19) := hdep 12 (by decide) (by kernel_rfl)
      exact gS_bd (wanted_none rfl _) rfl _ _ (by simp only [List.map_toArray, List.map_cons, List.map_nil]; rw [h0, h1, h2, h3, h4]) (bd40 _ _ _ _ _ W) ⟨Kp.refl _ _, rfl, fun h => by cases h⟩
    · cases ho
      exact gS_al (wanted_none rfl _) rfl zY (zeroY _) fun x hx w1 hb hk => ⟨hk, ⟨x, rfl, hb, by have := hW.size; omega⟩, fun _ => ⟨by show _ ≤ x; omega, blk_lt hb⟩⟩
    · omega
  intro v w2 hk2 hr _
  have v0 : v 0 = .pointer (some ⟨g, 0, none⟩) := hr 0 (by decide)
  have v1 : v 1 = .pointer (some ⟨g, 0, none⟩) := hr 1 (by decide)
  have v2 : v 2 = .pointer (some ⟨g, 19, none⟩) := hr 2 (by decide)
  have v3 : v 3 = .int .u64 (s.r 19 : Int) := hr 3 (by decide)
  have v4 : v 4 = .int .i64 kd := hr 4 (by decide)
  have v5 : v 5 = .pointer (some ⟨g, 0, none⟩) := hr 5 (by decide)
  have v6 : v 6 = .pointer (some ⟨g, 0, none⟩) := hr 6 (by decide)
  have v7 : v 7 = .pointer (some ⟨g, 0, none⟩) := hr 7 (by decide)
  have v8 : v 8 = .int .i64 s.m := hr 8 (by decide)
  have v9 : v 9 = .pointer (some ⟨g, 0, none⟩) := hr 9 (by decide)
  have v10 : v 10 = .bool (bitW (s.r 1) 18) := hr 10 (by decide)
  have v11 : v 11 = .pointer (some ⟨g, 0, none⟩) := hr 11 (by decide)
  have v12 : v 12 = .bool (bitW (s.r 1) 19) := hr 12 (by decide)
  have v13 : v 13 = .agg (wayC (s.r 19) kd s.m (bitW (s.r 1) 18) (bitW (s.r 1) 19)) := hr 13 (by decide)
  obtain ⟨x, v14, hbx, hgx⟩ := hr 14 (by decide)
  have hrx : r ≠ x := by have := blk_lt Z1.blk; omega
  have hwx : w.heap.size ≤ x := Nat.le_trans N1.size hgx
  have hgx' : g ≠ x := by have := hI1.lt; omega
  clear hr hgx
  simp only [putN, dO, v0, v1, v2, v3, v4, v5, v6, v7, v8, v9, v10, v11, v12, v13, v14, Act.put, List.setIfInBounds_toArray, List.set_cons_zero, List.set_cons_succ]
  clear v0 v1 v2 v3 v4 v5 v6 v7 v8 v9 v10 v11 v12 v13 v14
  refine any_1 (i := 15) (by kernel_rfl) rfl rfl (wp_st rfl rfl x (wayC (s.r 19) kd s.m (bitW (s.r 1) 18) (bitW (s.r 1) 19)) zY YT rfl rfl hbx infoY rfl (wayC_one _ _ _ _ _) fun w3 h3 k3 => ?_)
  refine wpAny_done (by kernel_rfl) ?_ _
  have hI3 := (hI1.kp hk2 (fun h => h)).kp k3 hgx'
  have Z3 := (Z1.kp hk2 (fun h => h)).kp k3 hrx
  have X3 : Bk w3 x (wayC (s.r 19) kd s.m (bitW (s.r 1) 18) (bitW (s.r 1) 19)) YT := ⟨h3⟩
  have N3 : KpN w w3 := (N1.trans hk2).then k3 fun i hi (e : i = x) => by omega
  clear h3 k3 hbx hI1 Z1 N1 hk2
  have c0 := hI3.c0
  have H3 := Aside0.mk hI3
  clear hI3
  rcases C4.out with ⟨hk0, hO⟩ | ⟨hk0, hm, hO⟩ | ⟨hk0, hm, hb, hO⟩ | ⟨hk0, hm, hb, hO⟩
  · have t0 : (kd == 0) = true := beq_iff_eq.2 hk0
    have t1 : (kd != 0) = false := by rw [bne, t0]; rfl
    have HO := Aside0.mk hO
    clear hk0 hO
    go_wp2_with (first
      | ((with_reducible refine gate_dst (N := 36) rfl ?_); refine wpList_load_row rfl 40 _ rfl x rfl _ (wayC (s.r 19) kd s.m (bitW (s.r 1) 18) (bitW (s.r 1) 19)) (0, 0) _ (X3.blk) Try.underlying40 rfl infoY ?_)
      | ((with_reducible refine gate_store (t := 40) (p := 4) rfl ?_); refine st_ev rfl rfl rfl r (wayC (s.r 19) kd s.m (bitW (s.r 1) 18) (bitW (s.r 1) 19)) _ _ rfl rfl (Z3.blk) infoY rfl (wayC_one _ _ _ _ _) ?_; intro w4 hs_w4 ks_w4))
    refine bodyPost_ret (results_cell_row rfl _ _ r 40 (wayC (s.r 19) kd s.m (bitW (s.r 1) 18) (bitW (s.r 1) 19)) (0, 0) _ rfl (hs_w4) Try.underlying40 rfl infoY) rfl ?_
    rw [HO.out]
    exact ⟨rfl, N3.then ks_w4 fun i hi (e : i = r) => by have := hwr.out; omega⟩
  · have t0 : (kd == 0) = false := beq_eq_false_iff_ne.2 hk0
    have t1 : (kd != 0) = true := by rw [bne, t0]; rfl
    have t2 : (s.m == 3) = false := beq_eq_false_iff_ne.2 hm
    have HO := Aside0.mk hO
    clear hk0 hO hm
    go_wp2_with (first
      | ((with_reducible refine gate_dst (N := 36) rfl ?_); refine wpList_load_row rfl 40 _ rfl x rfl _ (wayC (s.r 19) kd s.m (bitW (s.r 1) 18) (bitW (s.r 1) 19)) (0, 0) _ (X3.blk) Try.underlying40 rfl infoY ?_)
      | ((with_reducible refine gate_store (t := 40) (p := 4) rfl ?_); refine st_ev rfl rfl rfl r (wayC (s.r 19) kd s.m (bitW (s.r 1) 18) (bitW (s.r 1) 19)) _ _ rfl rfl (Z3.blk) infoY rfl (wayC_one _ _ _ _ _) ?_; intro w4 hs_w4 ks_w4))
    refine bodyPost_ret (results_cell_row rfl _ _ r 40 (wayC (s.r 19) kd s.m (bitW (s.r 1) 18) (bitW (s.r 1) 19)) (0, 0) _ rfl (hs_w4) Try.underlying40 rfl infoY) rfl ?_
    rw [HO.out]
    exact ⟨rfl, N3.then ks_w4 fun i hi (e : i = r) => by have := hwr.out; omega⟩
  · have t0 : (kd == 0) = false := beq_eq_false_iff_ne.2 hk0
    have t1 : (kd != 0) = true := by rw [bne, t0]; rfl
    have t2 : (s.m == 3) = true := beq_iff_eq.2 hm
    have HO := Aside0.mk hO
    rw [hb] at IS
    clear hk0 hO hm hb
    go_wp2_with (first
      | (go_at_call 28; refine (IS.out _ H3.out).mono ?_; rintro e w4 ⟨rfl, hk4⟩; have X4 := X3.kp hk4 (fun h => h); have Z4 := Z3.kp hk4 (fun h => h))
      | ((with_reducible refine gate_dst (N := 36) rfl ?_); refine wpList_load_row rfl 40 _ rfl x rfl _ (wayC (s.r 19) kd s.m (bitW (s.r 1) 18) (bitW (s.r 1) 19)) (0, 0) _ (X4.blk) Try.underlying40 rfl infoY ?_)
      | ((with_reducible refine gate_store (t := 40) (p := 4) rfl ?_); refine st_ev rfl rfl rfl r (wayC (s.r 19) kd s.m (bitW (s.r 1) 18) (bitW (s.r 1) 19)) _ _ rfl rfl (Z4.blk) infoY rfl (wayC_one _ _ _ _ _) ?_; intro w5 hs_w5 ks_w5))
    refine bodyPost_ret (results_cell_row rfl _ _ r 40 (wayC (s.r 19) kd s.m (bitW (s.r 1) 18) (bitW (s.r 1) 19)) (0, 0) _ rfl (hs_w5) Try.underlying40 rfl infoY) rfl ?_
    rw [HO.out]
    exact ⟨rfl, (N3.trans hk4).then ks_w5 fun i hi (e : i = r) => by have := hwr.out; omega⟩
  · have t0 : (kd == 0) = false := beq_eq_false_iff_ne.2 hk0
    have t1 : (kd != 0) = true := by rw [bne, t0]; rfl
    have t2 : (s.m == 3) = true := beq_iff_eq.2 hm
    have HO := Aside0.mk hO
    rw [hb] at IS
    generalize getW (s.r 1) 11 2 = gm at PV HO
    clear hk0 hO hm hb
    go_wp2_with (first
      | (go_at_call 28; refine (IS.out _ H3.out).mono ?_; rintro e w4 ⟨rfl, hk4⟩; have X4 := X3.kp hk4 (fun h => h); have Z4 := Z3.kp hk4 (fun h => h); have H4 := H3.out.kp hk4 (fun h => h))
      | (go_at_call 49; refine (PV.out _ H4).mono ?_; rintro e w5 ⟨rfl, hk5⟩; have X5 := X4.kp hk5 (fun h => h); have Z5 := Z4.kp hk5 (fun h => h); have f2 := blk_frozen X5.blk 2; have c2 := X5.c 2; rw [show (wayC (s.r 19) kd s.m (bitW (s.r 1) 18) (bitW (s.r 1) 19))[2]? = some (.int .i64 s.m) from rfl] at c2; have X6 : Bk (w5.setCell ⟨x, 2, none⟩ (.int .i64 (gm : Int))) x (wayC (s.r 19) kd (gm : Int) (bitW (s.r 1) 18) (bitW (s.r 1) 19)) YT := ⟨blk_set X5.blk 2 _⟩; have Z6 : Bk (w5.setCell ⟨x, 2, none⟩ (.int .i64 (gm : Int))) r zY YT := ⟨(Below.heap_setCell _ _ _ _ hrx).trans Z5.blk⟩; have N6 : KpN w (w5.setCell ⟨x, 2, none⟩ (.int .i64 (gm : Int))) := ((N3.trans hk4).trans hk5).setCell (p := ⟨x, 2, none⟩) (.inr hwx) _)
      | ((with_reducible refine gate_dst (N := 36) rfl ?_); refine wpList_load_row rfl 40 _ rfl x rfl _ (wayC (s.r 19) kd (gm : Int) (bitW (s.r 1) 18) (bitW (s.r 1) 19)) (0, 0) _ (X6.blk) Try.underlying40 rfl infoY ?_)
      | ((with_reducible refine gate_store (t := 40) (p := 4) rfl ?_); refine st_ev rfl rfl rfl r (wayC (s.r 19) kd (gm : Int) (bitW (s.r 1) 18) (bitW (s.r 1) 19)) _ _ rfl rfl (Z6.blk) infoY rfl (wayC_one _ _ _ _ _) ?_; intro w7 hs_w7 ks_w7))
    refine bodyPost_ret (results_cell_row rfl _ _ r 40 (wayC (s.r 19) kd (gm : Int) (bitW (s.r 1) 18) (bitW (s.r 1) 19)) (0, 0) _ rfl (hs_w7) Try.underlying40 rfl infoY) rfl ?_
    rw [HO.out]
    exact ⟨rfl, N6.then ks_w7 fun i hi (e : i = r) => by have := hwr.out; omega⟩
end Go.Proofs.Ytlhdildnekllhaa.H
/- Sv39Ways, walked by hand: how an access is made as a program runs. Printed by wip/tools/lawways.py. -/
namespace Go.Proofs.Ytlhdildnekllhaa.H
open Go.RowKit Go.Proofs.YtlhdildnekllhaaW.PrintWords Go.Proofs.YtlhdildnekllhaaW.PrintLast Go.Proofs.Ytlhdildnekllhaa.PAl Go.Proofs.Ytlhdildnekllhaa.Pure Go.Proofs.Ytlhdildnekllhaa.Vw
set_option linter.unusedVariables false
set_option linter.unusedSimpArgs false
theorem is_rk (s : VS) (n : Int) (w : World) (hs : s.ok) :
    Calls Try.prog 21 #[.agg s.cells, .int .i64 n] w fun e w' => e = .returned (.bool (bitW (s.r 1) n)) ∧ KpN w w' := by
  go_enter Try.func21, Try.ntmps21
  go_wp2_with (first | ((with_reducible refine gate_dst (N := 2) rfl ?_); refine bx_ev rfl rfl (N := 2) rfl (s.cells) rfl ?_; intro g hg_g w1 hb_g hk_g; have Hg_g := Aside0.mk hg_g; clear hg_g) | ((with_reducible refine gate_dst (N := 5) rfl ?_); refine wpList_load_row rfl 57 _ rfl g rfl _ (s.cells) (0, 0) _ (hb_g) Try.underlying57 rfl infoR ?_) | (go_at_call 46; refine (rbit_l s 0 n _ hs (by decide)).mono ?_; rintro e w2 ⟨rfl, hk2⟩))
  go_ret
  exact ⟨rfl, hk_g.trans hk2⟩
theorem Rel.r1w {f w : VS} (h : Rel f w) : w.r 1 = f.r 1 := (h.r 0 (by decide)).symm
theorem way_c (sp : Nat) (kd md : Int) (sum mxr : Bool) (w : World) : Calls Try.prog 13 #[.agg (wayC sp kd md sum mxr)] w fun e w' => e = .returned (.agg (wayC sp kd md sum mxr)) ∧ KpN w w' :=
  (vireolaw10_way.calls (sp : Int) kd md sum mxr _ _ _ _ _ w rfl).mono fun _ _ q => ⟨q.1, Kp.of_below q.2 _⟩
theorem rbare_k (sp : Nat) (kd md : Int) (sum mxr : Bool) (w : World) (hs : U sp) : Calls Try.prog 25 #[.agg (wayC sp kd md sum mxr)] w fun e' w' => e' = .returned (.bool (bareW sp md)) ∧ KpN w w' :=
  (vireoref10_Bare.calls 140 _ _ _ _ _ _ w (rbare_is hs kd md sum mxr 140 (by decide))).mono fun _ _ q => ⟨q.1, Kp.of_below q.2 _⟩
theorem rproper_k (va : Nat) (w : World) (hv : U va) : Calls Try.prog 27 #[.int .u64 (va : Int)] w fun e' w' => e' = .returned (.bool (properW va)) ∧ KpN w w' :=
  (vireoref10_Proper.calls 140 _ _ w (rproper_is hv 140 (by decide))).mono fun _ _ q => ⟨q.1, Kp.of_below q.2 _⟩
theorem getr_k2 (x : Nat) (a n : Int) (w : World) (hx : U x) : Calls Try.prog 22 #[.int .u64 (x : Int), .int .i64 a, .int .i64 n] w fun e w' => e = .returned (.int .u64 ((getW x a n : Nat) : Int)) ∧ KpN w w' :=
  (vireoref01_Get.calls 140 _ _ _ _ w (vireoref01_Get_is x hx.lt a n 140 (by decide))).mono fun e w' h => ⟨h.1, Kp.of_below h.2 _⟩
theorem get2_lt (x : Nat) (a : Int) : getW x a 2 < 4 := by
  unfold getW; split
  · exact Nat.mod_lt _ (by decide)
  · decide
theorem infoStart : (Try.prog.info? 52).map (·.size) = some 3 := by kernel_rfl
theorem fa25_3 (y : Nat) (w : World) : (Instr.fieldAt 25 (.pointer (some ⟨y, 0, none⟩)) 3).run Try.prog w = .ok (.pointer (some ⟨y, 3, none⟩)) w := by kernel_rfl
theorem ld4 (p : Addr) (v : Value) (w : World) (h : w.cell? p = some v) : (Instr.loadAt 4 (.pointer (some p))).run Try.prog w = .ok v w := by
  go_simp
theorem bd25 (a b c : Int) (x y : Bool) (w : World) : (Instr.build 25 #[(0, .int .u64 a), (1, .int .i64 b), (2, .int .i64 c), (3, .bool x), (4, .bool y)]).run Try.prog w = .ok (.agg #[.int .u64 a, .int .i64 b, .int .i64 c, .bool x, .bool y]) w := by kernel_rfl
theorem eqb4 (b : Bool) (w : World) (x y : Operand) : (do eqGuard .eql 4 x y (.bool b) (.bool b); binOp .eql 4 (.bool b) (.bool b) : Sem Value).run Try.prog w = .ok (.bool true) w := by
  cases b <;> kernel_rfl
theorem eq40 (sp : Nat) (kd md : Int) (sum mxr : Bool) (w : World) (x y : Operand) : (do eqGuard .eql 40 x y (.agg (wayC sp kd md sum mxr)) (.agg (wayC sp kd md sum mxr)); binOp .eql 40 (.agg (wayC sp kd md sum mxr)) (.agg (wayC sp kd md sum mxr)) : Sem Value).run Try.prog w = .ok (.bool true) w := by
  go_simp
def dw10 (i : Nat) : Tmp := match i with | 0 => 42 | 1 => 43 | 2 => 44 | 3 => 45 | 4 => 46 | 5 => 47 | 6 => 48 | 7 => 49 | 8 => 50 | _ => 12
def dw11 (i : Nat) : Tmp := match i with | 0 => 51 | 1 => 52 | 2 => 53 | 3 => 54 | 4 => 55 | 5 => 56 | 6 => 57 | 7 => 58 | 8 => 59 | 9 => 60 | 10 => 61 | 11 => 62 | 12 => 63 | 13 => 64 | 14 => 65 | 15 => 66 | 16 => 67 | 17 => 68 | 18 => 69 | 19 => 70 | 20 => 71 | 21 => 72 | 22 => 73 | _ => 74
def rw10 (w0 : World) (f : Nat) (S R : VS) (kd md : Int) (i : Nat) (v : Value) (w : World) : Prop := match i with
  | 0 => v = .pointer (some ⟨f, 19, none⟩) | 1 => v = .int .u64 (S.r 19 : Int) | 2 => v = .int .i64 kd | 3 => v = .int .i64 md | 4 => v = .agg R.cells | 5 => v = .bool (bitW (S.r 1) 18) | 6 => v = .agg R.cells | 7 => v = .bool (bitW (S.r 1) 19) | 8 => v = .agg (wayC (S.r 19) kd md (bitW (S.r 1) 18) (bitW (S.r 1) 19))
  | _ => ∃ x, v = .pointer (some ⟨x, 0, none⟩) ∧ w.heap[x]? = some (.cells zY Y2 (0, 0)) ∧ w0.heap.size ≤ x
theorem rw10_stab {w0 : World} {f : Nat} {S R : VS} {kd md : Int} (i : Nat) (v : Value) (w w' : World) (h : rw10 w0 f S R kd md i v w) (hk : KpN w w') : rw10 w0 f S R kd md i v w' := by
  rcases i with _ | _ | _ | _ | _ | _ | _ | _ | _ | i
  · exact h
  · exact h
  · exact h
  · exact h
  · exact h
  · exact h
  · exact h
  · exact h
  · exact h
  · obtain ⟨x, e, hb, hx⟩ := h
    exact ⟨x, e, (hk.block x (blk_lt hb) (fun h => h)).trans hb, hx⟩
def vw11 (S : VS) (kd md : Int) (va y : Nat) (bw pw : Bool) (i : Nat) : Value := match i with
  | 0 => .agg (wayC (S.r 19) kd md (bitW (S.r 1) 18) (bitW (S.r 1) 19)) | 1 => .agg (wayC (S.r 19) kd md (bitW (S.r 1) 18) (bitW (S.r 1) 19)) | 2 => .agg (wayC (S.r 19) kd md (bitW (S.r 1) 18) (bitW (S.r 1) 19)) | 3 => .bool true | 4 => .bool true | 5 => .agg (wayC (S.r 19) kd md (bitW (S.r 1) 18) (bitW (S.r 1) 19)) | 6 => .bool bw | 7 => .agg (wayC (S.r 19) kd md (bitW (S.r 1) 18) (bitW (S.r 1) 19)) | 8 => .bool bw | 9 => .bool true | 10 => .bool true | 11 => .bool true | 12 => .int .u64 (va : Int) | 13 => .bool pw | 14 => .int .u64 (va : Int) | 15 => .bool pw | 16 => .bool true | 17 => .bool true | 18 => .bool true | 19 => .bool (bitW (S.r 1) 18) | 20 => .pointer (some ⟨y, 3, none⟩) | 21 => .bool (bitW (S.r 1) 18) | 22 => .bool true | _ => .bool true
set_option maxHeartbeats 8000000 in
set_option maxRecDepth 100000 in
theorem ways_no (m : Int) (A : Option Addr) (c : Nat) (l : Nat) (xs : List WR) (kd : Int) (va : Nat) (w : World) (hC : Kd.C k92 w A xs.length xs) (hb : ¬ bgOk m xs.length) :
    Calls Try.prog 7 #[.agg (startC m A xs.length c (l : Int)), .int .i64 kd, .int .u64 (va : Int)] w fun e w' => e = .returned (.bool true) ∧ Below w.heap.size w w' := by
  have Hb := Aside0.mk hb
  have AW := Aside0.mk awake10_c
  clear hb
  go_enter Try.func7, Try.ntmps7
  go_wp2_with (first
    | ((with_reducible refine gate_dst (N := 3) rfl ?_); refine bx_ev rfl rfl (N := 3) rfl (startC m A xs.length c (l : Int)) rfl ?_; intro g hg_g w1 hb_g hk_g; have Hg_g := Aside0.mk hg_g; clear hg_g)
    | (go_at_call 8; refine (AW.out _).mono ?_; rintro e w2 ⟨rfl, hk2⟩; have hG2 := (Bk.mk hb_g).kp hk2 (fun h => h); have hC2 : Kd.C k92 w2 A xs.length xs := Kd.C_below hC ((hk_g.trans hk2).below (fun _ _ h => h.elim) (Nat.le_refl _)))
    | ((with_reducible refine gate_dst (N := 16) rfl ?_); refine wpList_load_row rfl 52 _ rfl g rfl _ (startC m A xs.length c (l : Int)) (0, 0) _ (hG2.blk) Try.underlying52 rfl infoStart ?_)
    | (go_at_call 20; refine (begun_no m A c l xs _ Hb.out).mono ?_; rintro e w3 ⟨rfl, hk3⟩)
    | ((with_reducible refine gate_dst (N := 7) rfl ?_); refine al_ev rfl rfl (N := 7) rfl _ (zeroF _) ?_; intro f hg_f w4 hb_f hk_f; have Hg_f := Aside0.mk hg_f; clear hg_f)
    | ((with_reducible refine gate_dst (N := 8) rfl ?_); refine al_ev rfl rfl (N := 8) rfl _ (zeroR _) ?_; intro p hg_p w5 hb_p hk_p; have Hg_p := Aside0.mk hg_p; clear hg_p)
    | (((with_reducible refine gate_store (t := 54) (p := 7) rfl ?_); refine st_ev rfl rfl rfl f (vs0.cells) _ _ rfl rfl (((Bk.mk hb_f).kp hk_p (fun h => h)).blk) infoF rfl (VS.one _) ?_; intro w6 hs_w6 ks_w6); have hpf : p ≠ f := (by have := Hg_p.out; have := blk_lt hb_f; omega); have hP6 := (Bk.mk hb_p).kp ks_w6 hpf)
    | (((with_reducible refine gate_store (t := 57) (p := 8) rfl ?_); refine st_ev rfl rfl rfl p (vs0.cells) _ _ rfl rfl (hP6.blk) infoR rfl (VS.one _) ?_; intro w7 hs_w7 ks_w7); have hI : St FT w7 f vs0 := (St.mk hs_w6).kp ks_w7 (fun e : f = p => hpf e.symm); have hP : Bk w7 p vs0.cells RT := Bk.mk hs_w7; have hfw : w.heap.size ≤ f := (by have := Hg_f.out; have := ((hk_g.trans hk2).trans hk3).size; omega); have hpw_ : w.heap.size ≤ p := (by have := Hg_p.out; have := (((hk_g.trans hk2).trans hk3).trans hk_f).size; omega); have K7 : KpN w w7 := ((((((hk_g.trans hk2).trans hk3).trans hk_f).trans hk_p).then ks_w6 fun i hi (e : i = f) => by omega).then ks_w7 fun i hi (e : i = p) => by omega);  clear hb_g hk_g Hg_g hk2 hG2 hC2 hk3 hb_f hk_f Hg_f hb_p hk_p Hg_p hs_w6 ks_w6 hP6 hs_w7 ks_w7))
  go_ret
  exact ⟨rfl, K7.below (fun _ _ h => h.elim) (Nat.le_refl _)⟩
/-- What stands when the document's mode is reckoned. -/
theorem dummy_ways : True := trivial
theorem wp_asw {P : Program} {Q : Exit → Act → World → Prop} {o : Oper} {a : Act} {w : World} {K : Act → World → Prop} {x : Operand} (ho : o.op = .assign x) (N : Tmp) (hd : o.dst = some N) (v : Value) (hx : a.eval x = v) (h : K (a.put (some N) v) w) : o.wp P a w K Q := wp_as ho (by rw [hx, hd]; exact h)
set_option maxHeartbeats 8000000 in
set_option maxRecDepth 100000 in
theorem ways_fetch (m : Int) (A : Option Addr) (c : Nat) (l : Nat) (xs : List WR) (kd : Int) (va : Nat) (w : World) (hC : Kd.C k92 w A xs.length xs) (hx : wrOk xs) (hl : U l) (hva : U va) (hb : bgOk m xs.length) (hk0 : kd = 0):
    Calls Try.prog 7 #[.agg (startC m A xs.length c (l : Int)), .int .i64 kd, .int .u64 (va : Int)] w fun e w' => e = .returned (.bool true) ∧ Below w.heap.size w w' := by
  have AW := Aside0.mk awake10_c
  have Hb := Aside0.mk hb
  have hRel := Rel.bg hx m l
  have hF : (bgF m xs l).ok := VS.set_ok (foldF_ok hx _) 6 hl.and
  have hR : (bgR m xs l).ok := VS.set_ok (foldR_ok hx _) 3 hl.and
  obtain ⟨S, hS⟩ : ∃ S, bgF m xs l = S := ⟨_, rfl⟩
  obtain ⟨R, hRR⟩ : ∃ R, bgR m xs l = R := ⟨_, rfl⟩
  rw [hS] at hF hRel
  rw [hRR] at hR hRel
  have by_ := fun w hC => begun_yes m A c l xs w Hb.out hC hx hl
  rw [hS, hRR] at by_
  have By := Aside0.mk by_
  have hS0 := hS
  clear by_ hS hRR hb
  have e1 : R.r 1 = S.r 1 := hRel.r1w
  have em : R.m = S.m := hRel.m.symm
  have J : ∀ n : Int, Aside0 (∀ W, Calls Try.prog 21 #[.agg R.cells, .int .i64 n] W fun e w' => e = .returned (.bool (bitW (S.r 1) n)) ∧ KpN W w') := fun n => ⟨fun W => by rw [← e1]; exact is_rk R n W hR⟩
  have J17 := J 17
  have J18 := J 18
  have J19 := J 19
  clear J
  have OF : Aside0 (∀ (g : Nat) W, St FT W g S → Calls Try.prog 23 #[.pointer (some ⟨g, 0, none⟩), .int .i64 kd] W fun e w' => e = .returned (.agg (wayC (S.r 19) kd (ofM S kd) (bitW (S.r 1) 18) (bitW (S.r 1) 19))) ∧ KpN W w') := ⟨fun g W h => sv_of_c g S kd W h hF⟩
  have IS : Aside0 (∀ (g : Nat) W, St FT W g S → Calls Try.prog 28 #[.pointer (some ⟨g, 0, none⟩), .int .i64 18] W fun e w' => e = .returned (.bool (bitW (S.r 1) 18)) ∧ KpN W w') := ⟨fun g W h => (is_c g S 18 W h hF).mono fun e w' q => ⟨q.1, by obtain ⟨m, hm⟩ := q.2; rw [hm]; exact (Kp.refl _ _).drewN m⟩⟩
  obtain ⟨md, hmd⟩ : ∃ md, ofM S kd = md := ⟨_, rfl⟩
  rw [hmd] at OF
  have WY : Aside0 (∀ W, Calls Try.prog 13 #[.agg (wayC (S.r 19) kd md (bitW (S.r 1) 18) (bitW (S.r 1) 19))] W fun e w' => e = .returned (.agg (wayC (S.r 19) kd md (bitW (S.r 1) 18) (bitW (S.r 1) 19))) ∧ KpN W w') := ⟨way_c _ _ _ _ _⟩
  obtain ⟨bw, hbw⟩ : ∃ b, bareW (S.r 19) md = b := ⟨_, rfl⟩
  obtain ⟨pw, hpw⟩ : ∃ b, properW va = b := ⟨_, rfl⟩
  have BA : Aside0 (∀ W, Calls Try.prog 24 #[.agg (wayC (S.r 19) kd md (bitW (S.r 1) 18) (bitW (S.r 1) 19))] W fun e w' => e = .returned (.bool bw) ∧ KpN W w') := ⟨fun W => by rw [← hbw]; exact bare_c _ _ _ _ _ W (hF 19)⟩
  have BR : Aside0 (∀ W, Calls Try.prog 25 #[.agg (wayC (S.r 19) kd md (bitW (S.r 1) 18) (bitW (S.r 1) 19))] W fun e w' => e = .returned (.bool bw) ∧ KpN W w') := ⟨fun W => by rw [← hbw]; exact rbare_k _ _ _ _ _ W (hF 19)⟩
  have PA : Aside0 (∀ W, Calls Try.prog 26 #[.int .u64 (va : Int)] W fun e w' => e = .returned (.bool pw) ∧ KpN W w') := ⟨fun W => by rw [← hpw]; exact (proper_c va W hva).mono fun e w' q => ⟨q.1, by obtain ⟨m, hm⟩ := q.2; rw [hm]; exact (Kp.refl _ _).drewN m⟩⟩
  have PR : Aside0 (∀ W, Calls Try.prog 27 #[.int .u64 (va : Int)] W fun e w' => e = .returned (.bool pw) ∧ KpN W w') := ⟨fun W => by rw [← hpw]; exact rproper_k va W hva⟩
  have GE : Aside0 (∀ W, Calls Try.prog 22 #[.int .u64 (S.r 1 : Int), .int .i64 11, .int .i64 2] W fun e w' => e = .returned (.int .u64 ((getW (S.r 1) 11 2 : Nat) : Int)) ∧ KpN W w') := ⟨fun W => getr_k2 _ _ _ W (hF 1)⟩
  have g4 : getW (S.r 1) 11 2 < 4 := get2_lt _ _
  have EC : Aside0 (IntKind.i64.wrap ((getW (S.r 1) 11 2 : Nat) : Int) = ((getW (S.r 1) 11 2 : Nat) : Int)) := ⟨by rw [IntKind.wrap_i64]; omega⟩
  clear hbw hpw hF hR
  have hmR : R.m = md := by rw [em, ← hmd, ofM, if_neg (fun h => h.1 hk0)]
  have t0 : (kd == 0) = true := beq_iff_eq.2 hk0
  have t1 : (kd != 0) = false := by rw [bne, t0]; rfl
  have HmR := Aside0.mk hmR
  clear hS0 hmR hmd hk0 em e1 hRel g4 EC GE J17
  go_enter Try.func7, Try.ntmps7
  go_wp2_with (first
    | ((with_reducible refine gate_dst (N := 3) rfl ?_); refine bx_ev rfl rfl (N := 3) rfl (startC m A xs.length c (l : Int)) rfl ?_; intro g hg_g w1 hb_g hk_g; have Hg_g := Aside0.mk hg_g; clear hg_g)
    | (go_at_call 8; refine (AW.out _).mono ?_; rintro e w2 ⟨rfl, hk2⟩; have hG2 := (Bk.mk hb_g).kp hk2 (fun h => h); have hC2 : Kd.C k92 w2 A xs.length xs := Kd.C_below hC ((hk_g.trans hk2).below (fun _ _ h => h.elim) (Nat.le_refl _)))
    | ((with_reducible refine gate_dst (N := 16) rfl ?_); refine wpList_load_row rfl 52 _ rfl g rfl _ (startC m A xs.length c (l : Int)) (0, 0) _ (hG2.blk) Try.underlying52 rfl infoStart ?_)
    | (go_at_call 20; refine (By.out _ hC2).mono ?_; rintro e w3 ⟨rfl, hk3⟩)
    | ((with_reducible refine gate_dst (N := 7) rfl ?_); refine al_ev rfl rfl (N := 7) rfl _ (zeroF _) ?_; intro f hg_f w4 hb_f hk_f; have Hg_f := Aside0.mk hg_f; clear hg_f)
    | ((with_reducible refine gate_dst (N := 8) rfl ?_); refine al_ev rfl rfl (N := 8) rfl _ (zeroR _) ?_; intro p hg_p w5 hb_p hk_p; have Hg_p := Aside0.mk hg_p; clear hg_p)
    | (((with_reducible refine gate_store (t := 54) (p := 7) rfl ?_); refine st_ev rfl rfl rfl f (S.cells) _ _ rfl rfl (((Bk.mk hb_f).kp hk_p (fun h => h)).blk) infoF rfl (VS.one _) ?_; intro w6 hs_w6 ks_w6); have hpf : p ≠ f := (by have := Hg_p.out; have := blk_lt hb_f; omega); have hP6 := (Bk.mk hb_p).kp ks_w6 hpf)
    | (((with_reducible refine gate_store (t := 57) (p := 8) rfl ?_); refine st_ev rfl rfl rfl p (R.cells) _ _ rfl rfl (hP6.blk) infoR rfl (VS.one _) ?_; intro w7 hs_w7 ks_w7); have hI : St FT w7 f S := (St.mk hs_w6).kp ks_w7 (fun e : f = p => hpf e.symm); have hP : Bk w7 p R.cells RT := Bk.mk hs_w7; have hfw : w.heap.size ≤ f := (by have := Hg_f.out; have := ((hk_g.trans hk2).trans hk3).size; omega); have hpw_ : w.heap.size ≤ p := (by have := Hg_p.out; have := (((hk_g.trans hk2).trans hk3).trans hk_f).size; omega); have K7 : KpN w w7 := ((((((hk_g.trans hk2).trans hk3).trans hk_f).trans hk_p).then ks_w6 fun i hi (e : i = f) => by omega).then ks_w7 fun i hi (e : i = p) => by omega); have c7 : w7.cell? ⟨p, 0, none⟩ = some (.int .i64 md) := (by rw [← HmR.out]; exact hP.c 0); clear hb_g hk_g Hg_g hk2 hG2 hC2 hk3 hb_f hk_f Hg_f hb_p hk_p Hg_p hs_w6 ks_w6 hP6 hs_w7 ks_w7)
    | (go_at_call 23; refine (OF.out f _ hI).mono ?_; rintro e W8 ⟨rfl, hk8⟩; have I8 := (hI).kp hk8 (fun h => h); have P8 := (hP).kp hk8 (fun h => h); have K8 := (K7).trans hk8)
    | ((with_reducible refine gate_dst (N := 11) rfl ?_); refine al_ev rfl rfl (N := 11) rfl _ (zeroY _) ?_; intro x hg_x W8b hb_x hk_x; have Hg_x := Aside0.mk hg_x; clear hg_x)
    | (((with_reducible refine gate_store (t := 40) (p := 11) rfl ?_); refine st_ev rfl rfl rfl x (wayC (S.r 19) kd md (bitW (S.r 1) 18) (bitW (S.r 1) 19)) _ _ rfl rfl (hb_x) infoY rfl (wayC_one _ _ _ _ _) ?_; intro W9 hs_W9 ks_W9); have hfx : f ≠ x := (by have := Hg_x.out; have := I8.lt; omega); have hpx : p ≠ x := (by have := Hg_x.out; have := blk_lt P8.blk; omega); have hwx0 : Aside0 (w.heap.size ≤ x) := ⟨(by have := Hg_x.out; have := K8.size; omega)⟩; have I9 := (I8.kp hk_x (fun h => h)).kp ks_W9 hfx; have P9_ := (P8.kp hk_x (fun h => h)).kp ks_W9 hpx; have X9 : Aside0 (Bk W9 x (wayC (S.r 19) kd md (bitW (S.r 1) 18) (bitW (S.r 1) 19)) YT) := ⟨⟨hs_W9⟩⟩; have K9 : KpN w W9 := (K8.trans hk_x).then ks_W9 fun i hi (e : i = x) => by have := hwx0.out; omega))
  have H9 := Aside0.mk I9
  have P9 := Aside0.mk P9_
  have hwx : w.heap.size ≤ x := hwx0.out
  clear hwx0
  refine wp_region_slots 10 1 #[true, true, true, true, true, true, true, true, true, true, false] dw10 (rw10 W9 f S R kd md) (fun i => decide (9 ≤ i)) (by kernel_rfl) (by kernel_rfl) rfl ?_ ?_ ?_ (fun i v w w' _ => rw10_stab i v w w') ?_ ?_
  · intro i o hi ho
    rcases i with _ | _ | _ | _ | _ | _ | _ | _ | _ | _ | i
    all_goals first | (cases ho; rfl) | omega
  · intro i hi
    rcases i with _ | _ | _ | _ | _ | _ | _ | _ | _ | _ | i
    all_goals first | (show (_ : Nat) < 75; decide) | omega
  · intro i j hi hj h
    rcases i with _ | _ | _ | _ | _ | _ | _ | _ | _ | _ | i
    all_goals rcases j with _ | _ | _ | _ | _ | _ | _ | _ | _ | _ | j
    all_goals first | rfl | omega | (exact absurd h (by decide))
  · intro i o hi ho a' W hW hA hdep
    rcases i with _ | _ | _ | _ | _ | _ | _ | _ | _ | _ | i
    · cases ho
      have h0 : a'.tmps.getD 7 undef = .pointer (some ⟨f, 0, none⟩) := hA.old 7 (by decide)
      exact gS_fa (wanted_none rfl _) rfl _ _ h0 (fa54_19 f W) ⟨Kp.refl _ _, rfl, fun h => by cases h⟩
    · cases ho
      have h0 : a'.tmps.getD 42 undef = .pointer (some ⟨f, 19, none⟩) := hdep 0 (by decide) (by kernel_rfl)
      exact gS_load (wanted_none rfl _) rfl _ _ h0 (ld23w _ _ W ((H9.out.kp hW (fun h => h)).c 19)) ⟨Kp.refl _ _, rfl, fun h => by cases h⟩
    · cases ho
      have h0 : a'.tmps.getD 1 undef = .int .i64 kd := hA.old 1 (by decide)
      exact gS_mv (wanted_none rfl _) rfl _ h0 ⟨Kp.refl _ _, rfl, fun h => by cases h⟩
    · cases ho
      have h0 : a'.tmps.getD 10 undef = .int .i64 md := hA.old 10 (by decide)
      exact gS_mv (wanted_none rfl _) rfl _ h0 ⟨Kp.refl _ _, rfl, fun h => by cases h⟩
    · cases ho
      exact gS_ld (wanted_none rfl _) rfl p (hA.old 8 (by decide)) RT (R.cells) _ (P9.out.kp hW (fun h => h)).blk Try.underlying57 rfl infoR ⟨Kp.refl _ _, rfl, fun h => by cases h⟩
    · cases ho
      have h0 : a'.eval (.tmp 46) = .agg R.cells := hdep 4 (by decide) (by kernel_rfl)
      refine gS_ca (wanted_none rfl _) rfl Try.func21 (by kernel_rfl) rfl #[.agg R.cells, .int .i64 18] (by simp only [List.map_toArray, List.map_cons, List.map_nil]; rw [h0]; rfl) ?_
      exact (J18.out W).mono fun e w' h => ⟨_, h.1, h.2, rfl, fun h => by cases h⟩
    · cases ho
      exact gS_ld (wanted_none rfl _) rfl p (hA.old 8 (by decide)) RT (R.cells) _ (P9.out.kp hW (fun h => h)).blk Try.underlying57 rfl infoR ⟨Kp.refl _ _, rfl, fun h => by cases h⟩
    · cases ho
      have h0 : a'.eval (.tmp 48) = .agg R.cells := hdep 6 (by decide) (by kernel_rfl)
      refine gS_ca (wanted_none rfl _) rfl Try.func21 (by kernel_rfl) rfl #[.agg R.cells, .int .i64 19] (by simp only [List.map_toArray, List.map_cons, List.map_nil]; rw [h0]; rfl) ?_
      exact (J19.out W).mono fun e w' h => ⟨_, h.1, h.2, rfl, fun h => by cases h⟩
    · cases ho
      have h0 : a'.eval (.tmp 43) = .int .u64 (S.r 19 : Int) := hdep 1 (by decide) (by kernel_rfl)
      have h1 : a'.eval (.tmp 44) = .int .i64 kd := hdep 2 (by decide) (by kernel_rfl)
      have h2 : a'.eval (.tmp 45) = .int .i64 md := hdep 3 (by decide) (by kernel_rfl)
      have h3 : a'.eval (.tmp 47) = .bool (bitW (S.r 1) 18) := hdep 5 (by decide) (by kernel_rfl)
      have h4 : a'.eval (.tmp 49) = .bool (bitW (S.r 1) 19) := hdep 7 (by decide) (by kernel_rfl)
      exact gS_bd (wanted_none rfl _) rfl _ _ (by simp only [List.map_toArray, List.map_cons, List.map_nil]; rw [h0, h1, h2, h3, h4]) (bd25 _ _ _ _ _ W) ⟨Kp.refl _ _, rfl, fun h => by cases h⟩
    · cases ho
      exact gS_al (wanted_none rfl _) rfl zY (zeroY2 _) fun x hx w1 hb hk => ⟨hk, ⟨x, rfl, hb, by have := hW.size; omega⟩, fun _ => ⟨by show _ ≤ x; omega, blk_lt hb⟩⟩
    · omega
  intro v w10 hk10 hr _
  have v0 : v 0 = .pointer (some ⟨f, 19, none⟩) := hr 0 (by decide)
  have v1 : v 1 = .int .u64 (S.r 19 : Int) := hr 1 (by decide)
  have v2 : v 2 = .int .i64 kd := hr 2 (by decide)
  have v3 : v 3 = .int .i64 md := hr 3 (by decide)
  have v4 : v 4 = .agg R.cells := hr 4 (by decide)
  have v5 : v 5 = .bool (bitW (S.r 1) 18) := hr 5 (by decide)
  have v6 : v 6 = .agg R.cells := hr 6 (by decide)
  have v7 : v 7 = .bool (bitW (S.r 1) 19) := hr 7 (by decide)
  have v8 : v 8 = .agg (wayC (S.r 19) kd md (bitW (S.r 1) 18) (bitW (S.r 1) 19)) := hr 8 (by decide)
  obtain ⟨y, v9, hby, hgy⟩ := hr 9 (by decide)
  have hxy : x ≠ y := by have := blk_lt X9.out.blk; omega
  have hwy : w.heap.size ≤ y := Nat.le_trans K9.size hgy
  have hfy : f ≠ y := by have := H9.out.lt; omega
  clear hr hgy
  simp only [putN, dw10, v0, v1, v2, v3, v4, v5, v6, v7, v8, v9, Act.put, List.setIfInBounds_toArray, List.set_cons_zero, List.set_cons_succ]
  clear v0 v1 v2 v3 v4 v5 v6 v7 v8 v9
  refine any_1 (i := 10) (by kernel_rfl) rfl rfl (wp_st rfl rfl y (wayC (S.r 19) kd md (bitW (S.r 1) 18) (bitW (S.r 1) 19)) zY Y2 rfl rfl hby infoY2 rfl (wayC_one _ _ _ _ _) fun w11 h11 k11 => ?_)
  refine wpAny_done (by kernel_rfl) ?_ _
  have H10 := Aside0.mk ((H9.out.kp hk10 (fun h => h)).kp k11 hfy)
  have XB := Aside0.mk ((X9.out.kp hk10 (fun h => h)).kp k11 hxy)
  have YB : Aside0 (Bk w11 y (wayC (S.r 19) kd md (bitW (S.r 1) 18) (bitW (S.r 1) 19)) Y2) := ⟨⟨h11⟩⟩
  have K11 : KpN w w11 := (K9.trans hk10).then k11 fun i hi (e : i = y) => by omega
  clear hby h11 k11 hk10 H9 P9 X9 K9
  go_wp2
  refine wp_region_vals 24 1 #[true, true, true, true, true, true, true, true, true, true, true, true, true, true, true, true, true, true, true, true, true, true, true, true, false] dw11 (vw11 S kd md va y bw pw) (by kernel_rfl) (by kernel_rfl) rfl ?_ ?_ ?_ ?_ ?_
  · intro i o hi ho
    rcases i with _ | _ | _ | _ | _ | _ | _ | _ | _ | _ | _ | _ | _ | _ | _ | _ | _ | _ | _ | _ | _ | _ | _ | _ | i
    all_goals first | (cases ho; rfl) | omega
  · intro i hi
    rcases i with _ | _ | _ | _ | _ | _ | _ | _ | _ | _ | _ | _ | _ | _ | _ | _ | _ | _ | _ | _ | _ | _ | _ | _ | i
    all_goals first | (show (_ : Nat) < 75; decide) | omega
  · intro i j hi hj h
    rcases i with _ | _ | _ | _ | _ | _ | _ | _ | _ | _ | _ | _ | _ | _ | _ | _ | _ | _ | _ | _ | _ | _ | _ | _ | i
    all_goals rcases j with _ | _ | _ | _ | _ | _ | _ | _ | _ | _ | _ | _ | _ | _ | _ | _ | _ | _ | _ | _ | _ | _ | _ | _ | j
    all_goals first | rfl | omega | (exact absurd h (by decide))
  · intro i o hi ho a' W hW hA hdep
    rcases i with _ | _ | _ | _ | _ | _ | _ | _ | _ | _ | _ | _ | _ | _ | _ | _ | _ | _ | _ | _ | _ | _ | _ | _ | i
    · cases ho
      exact gS_ld (wanted_none rfl _) rfl x (hA.old 11 (by decide)) YT (wayC (S.r 19) kd md (bitW (S.r 1) 18) (bitW (S.r 1) 19)) _ (XB.out.kp hW (fun h => h)).blk Try.underlying40 rfl infoY ⟨Kp.refl _ _, rfl⟩
    · cases ho
      exact gS_ld (wanted_none rfl _) rfl y (hA.old 12 (by decide)) Y2 (wayC (S.r 19) kd md (bitW (S.r 1) 18) (bitW (S.r 1) 19)) _ (YB.out.kp hW (fun h => h)).blk Try.underlying25 rfl infoY2 ⟨Kp.refl _ _, rfl⟩
    · cases ho
      have h0 : a'.eval (.tmp 52) = .agg (wayC (S.r 19) kd md (bitW (S.r 1) 18) (bitW (S.r 1) 19)) := hdep 1 (by decide) (by kernel_rfl)
      refine gS_ca (wanted_none rfl _) rfl Try.func13 (by kernel_rfl) rfl #[.agg (wayC (S.r 19) kd md (bitW (S.r 1) 18) (bitW (S.r 1) 19))] (by simp only [List.map_toArray, List.map_cons, List.map_nil]; rw [h0]) ?_
      exact (WY.out W).mono fun e w' h => ⟨_, h.1, h.2, rfl⟩
    · cases ho
      have h0 : a'.tmps.getD 51 undef = .agg (wayC (S.r 19) kd md (bitW (S.r 1) 18) (bitW (S.r 1) 19)) := hdep 0 (by decide) (by kernel_rfl)
      have h1 : a'.tmps.getD 53 undef = .agg (wayC (S.r 19) kd md (bitW (S.r 1) 18) (bitW (S.r 1) 19)) := hdep 2 (by decide) (by kernel_rfl)
      exact gS_bin (wanted_none rfl _) rfl _ _ _ h0 h1 (eq40 _ _ _ _ _ W _ _) ⟨Kp.refl _ _, rfl⟩
    · cases ho
      have h0 : a'.tmps.getD 54 undef = .bool true := hdep 3 (by decide) (by kernel_rfl)
      exact gS_mv (wanted_none rfl _) rfl _ h0 ⟨Kp.refl _ _, rfl⟩
    · cases ho
      have hg : a'.tmps.getD 55 undef = .bool true := hdep 4 (by decide) (by kernel_rfl)
      exact gS_ld (wanted_y rfl rfl hg) rfl x (hA.old 11 (by decide)) YT (wayC (S.r 19) kd md (bitW (S.r 1) 18) (bitW (S.r 1) 19)) _ (XB.out.kp hW (fun h => h)).blk Try.underlying40 rfl infoY ⟨Kp.refl _ _, rfl⟩
    · cases ho
      have hg : a'.tmps.getD 55 undef = .bool true := hdep 4 (by decide) (by kernel_rfl)
      have h0 : a'.eval (.tmp 56) = .agg (wayC (S.r 19) kd md (bitW (S.r 1) 18) (bitW (S.r 1) 19)) := hdep 5 (by decide) (by kernel_rfl)
      refine gS_ca (wanted_y rfl rfl hg) rfl Try.func24 (by kernel_rfl) rfl #[.agg (wayC (S.r 19) kd md (bitW (S.r 1) 18) (bitW (S.r 1) 19))] (by simp only [List.map_toArray, List.map_cons, List.map_nil]; rw [h0]) ?_
      exact (BA.out W).mono fun e w' h => ⟨_, h.1, h.2, rfl⟩
    · cases ho
      have hg : a'.tmps.getD 55 undef = .bool true := hdep 4 (by decide) (by kernel_rfl)
      exact gS_ld (wanted_y rfl rfl hg) rfl y (hA.old 12 (by decide)) Y2 (wayC (S.r 19) kd md (bitW (S.r 1) 18) (bitW (S.r 1) 19)) _ (YB.out.kp hW (fun h => h)).blk Try.underlying25 rfl infoY2 ⟨Kp.refl _ _, rfl⟩
    · cases ho
      have hg : a'.tmps.getD 55 undef = .bool true := hdep 4 (by decide) (by kernel_rfl)
      have h0 : a'.eval (.tmp 58) = .agg (wayC (S.r 19) kd md (bitW (S.r 1) 18) (bitW (S.r 1) 19)) := hdep 7 (by decide) (by kernel_rfl)
      refine gS_ca (wanted_y rfl rfl hg) rfl Try.func25 (by kernel_rfl) rfl #[.agg (wayC (S.r 19) kd md (bitW (S.r 1) 18) (bitW (S.r 1) 19))] (by simp only [List.map_toArray, List.map_cons, List.map_nil]; rw [h0]) ?_
      exact (BR.out W).mono fun e w' h => ⟨_, h.1, h.2, rfl⟩
    · cases ho
      have hg : a'.tmps.getD 55 undef = .bool true := hdep 4 (by decide) (by kernel_rfl)
      have h0 : a'.tmps.getD 57 undef = .bool bw := hdep 6 (by decide) (by kernel_rfl)
      have h1 : a'.tmps.getD 59 undef = .bool bw := hdep 8 (by decide) (by kernel_rfl)
      exact gS_bin (wanted_y rfl rfl hg) rfl _ _ _ h0 h1 (eqb4 bw W _ _) ⟨Kp.refl _ _, rfl⟩
    · cases ho
      have h0 : a'.tmps.getD 55 undef = .bool true := hdep 4 (by decide) (by kernel_rfl)
      have h1 : a'.tmps.getD 60 undef = .bool true := hdep 9 (by decide) (by kernel_rfl)
      exact gS_pick (wanted_none rfl _) rfl true _ h0 h1 ⟨Kp.refl _ _, rfl⟩
    · cases ho
      have h0 : a'.tmps.getD 61 undef = .bool true := hdep 10 (by decide) (by kernel_rfl)
      exact gS_mv (wanted_none rfl _) rfl _ h0 ⟨Kp.refl _ _, rfl⟩
    · cases ho
      have hg : a'.tmps.getD 62 undef = .bool true := hdep 11 (by decide) (by kernel_rfl)
      have h0 : a'.tmps.getD 2 undef = .int .u64 (va : Int) := hA.old 2 (by decide)
      exact gS_mv (wanted_y rfl rfl hg) rfl _ h0 ⟨Kp.refl _ _, rfl⟩
    · cases ho
      have hg : a'.tmps.getD 62 undef = .bool true := hdep 11 (by decide) (by kernel_rfl)
      have h0 : a'.eval (.tmp 63) = .int .u64 (va : Int) := hdep 12 (by decide) (by kernel_rfl)
      refine gS_ca (wanted_y rfl rfl hg) rfl Try.func26 (by kernel_rfl) rfl #[.int .u64 (va : Int)] (by simp only [List.map_toArray, List.map_cons, List.map_nil]; rw [h0]) ?_
      exact (PA.out W).mono fun e w' h => ⟨_, h.1, h.2, rfl⟩
    · cases ho
      have hg : a'.tmps.getD 62 undef = .bool true := hdep 11 (by decide) (by kernel_rfl)
      have h0 : a'.tmps.getD 2 undef = .int .u64 (va : Int) := hA.old 2 (by decide)
      exact gS_mv (wanted_y rfl rfl hg) rfl _ h0 ⟨Kp.refl _ _, rfl⟩
    · cases ho
      have hg : a'.tmps.getD 62 undef = .bool true := hdep 11 (by decide) (by kernel_rfl)
      have h0 : a'.eval (.tmp 65) = .int .u64 (va : Int) := hdep 14 (by decide) (by kernel_rfl)
      refine gS_ca (wanted_y rfl rfl hg) rfl Try.func27 (by kernel_rfl) rfl #[.int .u64 (va : Int)] (by simp only [List.map_toArray, List.map_cons, List.map_nil]; rw [h0]) ?_
      exact (PR.out W).mono fun e w' h => ⟨_, h.1, h.2, rfl⟩
    · cases ho
      have hg : a'.tmps.getD 62 undef = .bool true := hdep 11 (by decide) (by kernel_rfl)
      have h0 : a'.tmps.getD 64 undef = .bool pw := hdep 13 (by decide) (by kernel_rfl)
      have h1 : a'.tmps.getD 66 undef = .bool pw := hdep 15 (by decide) (by kernel_rfl)
      exact gS_bin (wanted_y rfl rfl hg) rfl _ _ _ h0 h1 (eqb4 pw W _ _) ⟨Kp.refl _ _, rfl⟩
    · cases ho
      have h0 : a'.tmps.getD 62 undef = .bool true := hdep 11 (by decide) (by kernel_rfl)
      have h1 : a'.tmps.getD 67 undef = .bool true := hdep 16 (by decide) (by kernel_rfl)
      exact gS_pick (wanted_none rfl _) rfl true _ h0 h1 ⟨Kp.refl _ _, rfl⟩
    · cases ho
      have h0 : a'.tmps.getD 68 undef = .bool true := hdep 17 (by decide) (by kernel_rfl)
      exact gS_mv (wanted_none rfl _) rfl _ h0 ⟨Kp.refl _ _, rfl⟩
    · cases ho
      have hg : a'.tmps.getD 69 undef = .bool true := hdep 18 (by decide) (by kernel_rfl)
      have h0 : a'.eval (.tmp 7) = .pointer (some ⟨f, 0, none⟩) := hA.old 7 (by decide)
      refine gS_ca (wanted_y rfl rfl hg) rfl Try.func28 (by kernel_rfl) rfl #[.pointer (some ⟨f, 0, none⟩), .int .i64 18] (by simp only [List.map_toArray, List.map_cons, List.map_nil]; rw [h0]; rfl) ?_
      exact (IS.out f W (H10.out.kp hW (fun h => h))).mono fun e w' h => ⟨_, h.1, h.2, rfl⟩
    · cases ho
      have hg : a'.tmps.getD 69 undef = .bool true := hdep 18 (by decide) (by kernel_rfl)
      have h0 : a'.tmps.getD 12 undef = .pointer (some ⟨y, 0, none⟩) := hA.old 12 (by decide)
      exact gS_fa (wanted_y rfl rfl hg) rfl _ _ h0 (fa25_3 y W) ⟨Kp.refl _ _, rfl⟩
    · cases ho
      have hg : a'.tmps.getD 69 undef = .bool true := hdep 18 (by decide) (by kernel_rfl)
      have h0 : a'.tmps.getD 71 undef = .pointer (some ⟨y, 3, none⟩) := hdep 20 (by decide) (by kernel_rfl)
      exact gS_load (wanted_y rfl rfl hg) rfl _ _ h0 (ld4 _ _ W ((YB.out.kp hW (fun h => h)).c 3)) ⟨Kp.refl _ _, rfl⟩
    · cases ho
      have hg : a'.tmps.getD 69 undef = .bool true := hdep 18 (by decide) (by kernel_rfl)
      have h0 : a'.tmps.getD 70 undef = .bool (bitW (S.r 1) 18) := hdep 19 (by decide) (by kernel_rfl)
      have h1 : a'.tmps.getD 72 undef = .bool (bitW (S.r 1) 18) := hdep 21 (by decide) (by kernel_rfl)
      exact gS_bin (wanted_y rfl rfl hg) rfl _ _ _ h0 h1 (eqb4 (bitW (S.r 1) 18) W _ _) ⟨Kp.refl _ _, rfl⟩
    · cases ho
      have h0 : a'.tmps.getD 69 undef = .bool true := hdep 18 (by decide) (by kernel_rfl)
      have h1 : a'.tmps.getD 73 undef = .bool true := hdep 22 (by decide) (by kernel_rfl)
      exact gS_pick (wanted_none rfl _) rfl true _ h0 h1 ⟨Kp.refl _ _, rfl⟩
    · omega
  intro w12 hk12
  have K12 := K11.trans hk12
  simp only [putN, dw11, vw11, Act.put, List.setIfInBounds_toArray, List.set_cons_zero, List.set_cons_succ]
  refine any_1 (i := 24) (by kernel_rfl) rfl rfl (wp_asw rfl 6 rfl (.bool true) rfl ?_)
  refine wpAny_done (by kernel_rfl) ?_ _
  simp only [Act.put, List.setIfInBounds_toArray, List.set_cons_zero, List.set_cons_succ]
  go_wp2
  go_ret
  exact ⟨rfl, K12.below (fun _ _ h => h.elim) (Nat.le_refl _)⟩
set_option maxHeartbeats 8000000 in
set_option maxRecDepth 100000 in
theorem ways_other (m : Int) (A : Option Addr) (c : Nat) (l : Nat) (xs : List WR) (kd : Int) (va : Nat) (w : World) (hC : Kd.C k92 w A xs.length xs) (hx : wrOk xs) (hl : U l) (hva : U va) (hb : bgOk m xs.length) (hk0 : kd ≠ 0) (h3 : (bgF m xs l).m ≠ 3):
    Calls Try.prog 7 #[.agg (startC m A xs.length c (l : Int)), .int .i64 kd, .int .u64 (va : Int)] w fun e w' => e = .returned (.bool true) ∧ Below w.heap.size w w' := by
  have AW := Aside0.mk awake10_c
  have Hb := Aside0.mk hb
  have hRel := Rel.bg hx m l
  have hF : (bgF m xs l).ok := VS.set_ok (foldF_ok hx _) 6 hl.and
  have hR : (bgR m xs l).ok := VS.set_ok (foldR_ok hx _) 3 hl.and
  obtain ⟨S, hS⟩ : ∃ S, bgF m xs l = S := ⟨_, rfl⟩
  obtain ⟨R, hRR⟩ : ∃ R, bgR m xs l = R := ⟨_, rfl⟩
  rw [hS] at hF hRel
  rw [hRR] at hR hRel
  have by_ := fun w hC => begun_yes m A c l xs w Hb.out hC hx hl
  rw [hS, hRR] at by_
  have By := Aside0.mk by_
  have hS0 := hS
  clear by_ hS hRR hb
  have e1 : R.r 1 = S.r 1 := hRel.r1w
  have em : R.m = S.m := hRel.m.symm
  have J : ∀ n : Int, Aside0 (∀ W, Calls Try.prog 21 #[.agg R.cells, .int .i64 n] W fun e w' => e = .returned (.bool (bitW (S.r 1) n)) ∧ KpN W w') := fun n => ⟨fun W => by rw [← e1]; exact is_rk R n W hR⟩
  have J17 := J 17
  have J18 := J 18
  have J19 := J 19
  clear J
  have OF : Aside0 (∀ (g : Nat) W, St FT W g S → Calls Try.prog 23 #[.pointer (some ⟨g, 0, none⟩), .int .i64 kd] W fun e w' => e = .returned (.agg (wayC (S.r 19) kd (ofM S kd) (bitW (S.r 1) 18) (bitW (S.r 1) 19))) ∧ KpN W w') := ⟨fun g W h => sv_of_c g S kd W h hF⟩
  have IS : Aside0 (∀ (g : Nat) W, St FT W g S → Calls Try.prog 28 #[.pointer (some ⟨g, 0, none⟩), .int .i64 18] W fun e w' => e = .returned (.bool (bitW (S.r 1) 18)) ∧ KpN W w') := ⟨fun g W h => (is_c g S 18 W h hF).mono fun e w' q => ⟨q.1, by obtain ⟨m, hm⟩ := q.2; rw [hm]; exact (Kp.refl _ _).drewN m⟩⟩
  obtain ⟨md, hmd⟩ : ∃ md, ofM S kd = md := ⟨_, rfl⟩
  rw [hmd] at OF
  have WY : Aside0 (∀ W, Calls Try.prog 13 #[.agg (wayC (S.r 19) kd md (bitW (S.r 1) 18) (bitW (S.r 1) 19))] W fun e w' => e = .returned (.agg (wayC (S.r 19) kd md (bitW (S.r 1) 18) (bitW (S.r 1) 19))) ∧ KpN W w') := ⟨way_c _ _ _ _ _⟩
  obtain ⟨bw, hbw⟩ : ∃ b, bareW (S.r 19) md = b := ⟨_, rfl⟩
  obtain ⟨pw, hpw⟩ : ∃ b, properW va = b := ⟨_, rfl⟩
  have BA : Aside0 (∀ W, Calls Try.prog 24 #[.agg (wayC (S.r 19) kd md (bitW (S.r 1) 18) (bitW (S.r 1) 19))] W fun e w' => e = .returned (.bool bw) ∧ KpN W w') := ⟨fun W => by rw [← hbw]; exact bare_c _ _ _ _ _ W (hF 19)⟩
  have BR : Aside0 (∀ W, Calls Try.prog 25 #[.agg (wayC (S.r 19) kd md (bitW (S.r 1) 18) (bitW (S.r 1) 19))] W fun e w' => e = .returned (.bool bw) ∧ KpN W w') := ⟨fun W => by rw [← hbw]; exact rbare_k _ _ _ _ _ W (hF 19)⟩
  have PA : Aside0 (∀ W, Calls Try.prog 26 #[.int .u64 (va : Int)] W fun e w' => e = .returned (.bool pw) ∧ KpN W w') := ⟨fun W => by rw [← hpw]; exact (proper_c va W hva).mono fun e w' q => ⟨q.1, by obtain ⟨m, hm⟩ := q.2; rw [hm]; exact (Kp.refl _ _).drewN m⟩⟩
  have PR : Aside0 (∀ W, Calls Try.prog 27 #[.int .u64 (va : Int)] W fun e w' => e = .returned (.bool pw) ∧ KpN W w') := ⟨fun W => by rw [← hpw]; exact rproper_k va W hva⟩
  have GE : Aside0 (∀ W, Calls Try.prog 22 #[.int .u64 (S.r 1 : Int), .int .i64 11, .int .i64 2] W fun e w' => e = .returned (.int .u64 ((getW (S.r 1) 11 2 : Nat) : Int)) ∧ KpN W w') := ⟨fun W => getr_k2 _ _ _ W (hF 1)⟩
  have g4 : getW (S.r 1) 11 2 < 4 := get2_lt _ _
  have EC : Aside0 (IntKind.i64.wrap ((getW (S.r 1) 11 2 : Nat) : Int) = ((getW (S.r 1) 11 2 : Nat) : Int)) := ⟨by rw [IntKind.wrap_i64]; omega⟩
  clear hbw hpw hF hR
  rw [hS0] at h3
  have hmS : S.m = md := by rw [← hmd, ofM, if_neg (fun h => h3 h.2.1)]
  have HmR : Aside0 (R.m = md) := ⟨em.trans hmS⟩
  have t0 : (kd == 0) = false := beq_eq_false_iff_ne.2 hk0
  have t1 : (kd != 0) = true := by rw [bne, t0]; rfl
  have t2 : (md == 3) = false := beq_eq_false_iff_ne.2 (fun h => h3 (hmS.trans h))
  clear hS0 h3 hmS hmd hk0 em e1 hRel g4 EC GE J17
  go_enter Try.func7, Try.ntmps7
  go_wp2_with (first
    | ((with_reducible refine gate_dst (N := 3) rfl ?_); refine bx_ev rfl rfl (N := 3) rfl (startC m A xs.length c (l : Int)) rfl ?_; intro g hg_g w1 hb_g hk_g; have Hg_g := Aside0.mk hg_g; clear hg_g)
    | (go_at_call 8; refine (AW.out _).mono ?_; rintro e w2 ⟨rfl, hk2⟩; have hG2 := (Bk.mk hb_g).kp hk2 (fun h => h); have hC2 : Kd.C k92 w2 A xs.length xs := Kd.C_below hC ((hk_g.trans hk2).below (fun _ _ h => h.elim) (Nat.le_refl _)))
    | ((with_reducible refine gate_dst (N := 16) rfl ?_); refine wpList_load_row rfl 52 _ rfl g rfl _ (startC m A xs.length c (l : Int)) (0, 0) _ (hG2.blk) Try.underlying52 rfl infoStart ?_)
    | (go_at_call 20; refine (By.out _ hC2).mono ?_; rintro e w3 ⟨rfl, hk3⟩)
    | ((with_reducible refine gate_dst (N := 7) rfl ?_); refine al_ev rfl rfl (N := 7) rfl _ (zeroF _) ?_; intro f hg_f w4 hb_f hk_f; have Hg_f := Aside0.mk hg_f; clear hg_f)
    | ((with_reducible refine gate_dst (N := 8) rfl ?_); refine al_ev rfl rfl (N := 8) rfl _ (zeroR _) ?_; intro p hg_p w5 hb_p hk_p; have Hg_p := Aside0.mk hg_p; clear hg_p)
    | (((with_reducible refine gate_store (t := 54) (p := 7) rfl ?_); refine st_ev rfl rfl rfl f (S.cells) _ _ rfl rfl (((Bk.mk hb_f).kp hk_p (fun h => h)).blk) infoF rfl (VS.one _) ?_; intro w6 hs_w6 ks_w6); have hpf : p ≠ f := (by have := Hg_p.out; have := blk_lt hb_f; omega); have hP6 := (Bk.mk hb_p).kp ks_w6 hpf)
    | (((with_reducible refine gate_store (t := 57) (p := 8) rfl ?_); refine st_ev rfl rfl rfl p (R.cells) _ _ rfl rfl (hP6.blk) infoR rfl (VS.one _) ?_; intro w7 hs_w7 ks_w7); have hI : St FT w7 f S := (St.mk hs_w6).kp ks_w7 (fun e : f = p => hpf e.symm); have hP : Bk w7 p R.cells RT := Bk.mk hs_w7; have hfw : w.heap.size ≤ f := (by have := Hg_f.out; have := ((hk_g.trans hk2).trans hk3).size; omega); have hpw_ : w.heap.size ≤ p := (by have := Hg_p.out; have := (((hk_g.trans hk2).trans hk3).trans hk_f).size; omega); have K7 : KpN w w7 := ((((((hk_g.trans hk2).trans hk3).trans hk_f).trans hk_p).then ks_w6 fun i hi (e : i = f) => by omega).then ks_w7 fun i hi (e : i = p) => by omega); have c7 : w7.cell? ⟨p, 0, none⟩ = some (.int .i64 md) := (by rw [← HmR.out]; exact hP.c 0); clear hb_g hk_g Hg_g hk2 hG2 hC2 hk3 hb_f hk_f Hg_f hb_p hk_p Hg_p hs_w6 ks_w6 hP6 hs_w7 ks_w7)
    | (go_at_call 23; refine (OF.out f _ hI).mono ?_; rintro e W8 ⟨rfl, hk8⟩; have I8 := (hI).kp hk8 (fun h => h); have P8 := (hP).kp hk8 (fun h => h); have K8 := (K7).trans hk8)
    | ((with_reducible refine gate_dst (N := 11) rfl ?_); refine al_ev rfl rfl (N := 11) rfl _ (zeroY _) ?_; intro x hg_x W8b hb_x hk_x; have Hg_x := Aside0.mk hg_x; clear hg_x)
    | (((with_reducible refine gate_store (t := 40) (p := 11) rfl ?_); refine st_ev rfl rfl rfl x (wayC (S.r 19) kd md (bitW (S.r 1) 18) (bitW (S.r 1) 19)) _ _ rfl rfl (hb_x) infoY rfl (wayC_one _ _ _ _ _) ?_; intro W9 hs_W9 ks_W9); have hfx : f ≠ x := (by have := Hg_x.out; have := I8.lt; omega); have hpx : p ≠ x := (by have := Hg_x.out; have := blk_lt P8.blk; omega); have hwx0 : Aside0 (w.heap.size ≤ x) := ⟨(by have := Hg_x.out; have := K8.size; omega)⟩; have I9 := (I8.kp hk_x (fun h => h)).kp ks_W9 hfx; have P9_ := (P8.kp hk_x (fun h => h)).kp ks_W9 hpx; have X9 : Aside0 (Bk W9 x (wayC (S.r 19) kd md (bitW (S.r 1) 18) (bitW (S.r 1) 19)) YT) := ⟨⟨hs_W9⟩⟩; have K9 : KpN w W9 := (K8.trans hk_x).then ks_W9 fun i hi (e : i = x) => by have := hwx0.out; omega))
  have H9 := Aside0.mk I9
  have P9 := Aside0.mk P9_
  have hwx : w.heap.size ≤ x := hwx0.out
  clear hwx0
  refine wp_region_slots 10 1 #[true, true, true, true, true, true, true, true, true, true, false] dw10 (rw10 W9 f S R kd md) (fun i => decide (9 ≤ i)) (by kernel_rfl) (by kernel_rfl) rfl ?_ ?_ ?_ (fun i v w w' _ => rw10_stab i v w w') ?_ ?_
  · intro i o hi ho
    rcases i with _ | _ | _ | _ | _ | _ | _ | _ | _ | _ | i
    all_goals first | (cases ho; rfl) | omega
  · intro i hi
    rcases i with _ | _ | _ | _ | _ | _ | _ | _ | _ | _ | i
    all_goals first | (show (_ : Nat) < 75; decide) | omega
  · intro i j hi hj h
    rcases i with _ | _ | _ | _ | _ | _ | _ | _ | _ | _ | i
    all_goals rcases j with _ | _ | _ | _ | _ | _ | _ | _ | _ | _ | j
    all_goals first | rfl | omega | (exact absurd h (by decide))
  · intro i o hi ho a' W hW hA hdep
    rcases i with _ | _ | _ | _ | _ | _ | _ | _ | _ | _ | i
    · cases ho
      have h0 : a'.tmps.getD 7 undef = .pointer (some ⟨f, 0, none⟩) := hA.old 7 (by decide)
      exact gS_fa (wanted_none rfl _) rfl _ _ h0 (fa54_19 f W) ⟨Kp.refl _ _, rfl, fun h => by cases h⟩
    · cases ho
      have h0 : a'.tmps.getD 42 undef = .pointer (some ⟨f, 19, none⟩) := hdep 0 (by decide) (by kernel_rfl)
      exact gS_load (wanted_none rfl _) rfl _ _ h0 (ld23w _ _ W ((H9.out.kp hW (fun h => h)).c 19)) ⟨Kp.refl _ _, rfl, fun h => by cases h⟩
    · cases ho
      have h0 : a'.tmps.getD 1 undef = .int .i64 kd := hA.old 1 (by decide)
      exact gS_mv (wanted_none rfl _) rfl _ h0 ⟨Kp.refl _ _, rfl, fun h => by cases h⟩
    · cases ho
      have h0 : a'.tmps.getD 10 undef = .int .i64 md := hA.old 10 (by decide)
      exact gS_mv (wanted_none rfl _) rfl _ h0 ⟨Kp.refl _ _, rfl, fun h => by cases h⟩
    · cases ho
      exact gS_ld (wanted_none rfl _) rfl p (hA.old 8 (by decide)) RT (R.cells) _ (P9.out.kp hW (fun h => h)).blk Try.underlying57 rfl infoR ⟨Kp.refl _ _, rfl, fun h => by cases h⟩
    · cases ho
      have h0 : a'.eval (.tmp 46) = .agg R.cells := hdep 4 (by decide) (by kernel_rfl)
      refine gS_ca (wanted_none rfl _) rfl Try.func21 (by kernel_rfl) rfl #[.agg R.cells, .int .i64 18] (by simp only [List.map_toArray, List.map_cons, List.map_nil]; rw [h0]; rfl) ?_
      exact (J18.out W).mono fun e w' h => ⟨_, h.1, h.2, rfl, fun h => by cases h⟩
    · cases ho
      exact gS_ld (wanted_none rfl _) rfl p (hA.old 8 (by decide)) RT (R.cells) _ (P9.out.kp hW (fun h => h)).blk Try.underlying57 rfl infoR ⟨Kp.refl _ _, rfl, fun h => by cases h⟩
    · cases ho
      have h0 : a'.eval (.tmp 48) = .agg R.cells := hdep 6 (by decide) (by kernel_rfl)
      refine gS_ca (wanted_none rfl _) rfl Try.func21 (by kernel_rfl) rfl #[.agg R.cells, .int .i64 19] (by simp only [List.map_toArray, List.map_cons, List.map_nil]; rw [h0]; rfl) ?_
      exact (J19.out W).mono fun e w' h => ⟨_, h.1, h.2, rfl, fun h => by cases h⟩
    · cases ho
      have h0 : a'.eval (.tmp 43) = .int .u64 (S.r 19 : Int) := hdep 1 (by decide) (by kernel_rfl)
      have h1 : a'.eval (.tmp 44) = .int .i64 kd := hdep 2 (by decide) (by kernel_rfl)
      have h2 : a'.eval (.tmp 45) = .int .i64 md := hdep 3 (by decide) (by kernel_rfl)
      have h3 : a'.eval (.tmp 47) = .bool (bitW (S.r 1) 18) := hdep 5 (by decide) (by kernel_rfl)
      have h4 : a'.eval (.tmp 49) = .bool (bitW (S.r 1) 19) := hdep 7 (by decide) (by kernel_rfl)
      exact gS_bd (wanted_none rfl _) rfl _ _ (by simp only [List.map_toArray, List.map_cons, List.map_nil]; rw [h0, h1, h2, h3, h4]) (bd25 _ _ _ _ _ W) ⟨Kp.refl _ _, rfl, fun h => by cases h⟩
    · cases ho
      exact gS_al (wanted_none rfl _) rfl zY (zeroY2 _) fun x hx w1 hb hk => ⟨hk, ⟨x, rfl, hb, by have := hW.size; omega⟩, fun _ => ⟨by show _ ≤ x; omega, blk_lt hb⟩⟩
    · omega
  intro v w10 hk10 hr _
  have v0 : v 0 = .pointer (some ⟨f, 19, none⟩) := hr 0 (by decide)
  have v1 : v 1 = .int .u64 (S.r 19 : Int) := hr 1 (by decide)
  have v2 : v 2 = .int .i64 kd := hr 2 (by decide)
  have v3 : v 3 = .int .i64 md := hr 3 (by decide)
  have v4 : v 4 = .agg R.cells := hr 4 (by decide)
  have v5 : v 5 = .bool (bitW (S.r 1) 18) := hr 5 (by decide)
  have v6 : v 6 = .agg R.cells := hr 6 (by decide)
  have v7 : v 7 = .bool (bitW (S.r 1) 19) := hr 7 (by decide)
  have v8 : v 8 = .agg (wayC (S.r 19) kd md (bitW (S.r 1) 18) (bitW (S.r 1) 19)) := hr 8 (by decide)
  obtain ⟨y, v9, hby, hgy⟩ := hr 9 (by decide)
  have hxy : x ≠ y := by have := blk_lt X9.out.blk; omega
  have hwy : w.heap.size ≤ y := Nat.le_trans K9.size hgy
  have hfy : f ≠ y := by have := H9.out.lt; omega
  clear hr hgy
  simp only [putN, dw10, v0, v1, v2, v3, v4, v5, v6, v7, v8, v9, Act.put, List.setIfInBounds_toArray, List.set_cons_zero, List.set_cons_succ]
  clear v0 v1 v2 v3 v4 v5 v6 v7 v8 v9
  refine any_1 (i := 10) (by kernel_rfl) rfl rfl (wp_st rfl rfl y (wayC (S.r 19) kd md (bitW (S.r 1) 18) (bitW (S.r 1) 19)) zY Y2 rfl rfl hby infoY2 rfl (wayC_one _ _ _ _ _) fun w11 h11 k11 => ?_)
  refine wpAny_done (by kernel_rfl) ?_ _
  have H10 := Aside0.mk ((H9.out.kp hk10 (fun h => h)).kp k11 hfy)
  have XB := Aside0.mk ((X9.out.kp hk10 (fun h => h)).kp k11 hxy)
  have YB : Aside0 (Bk w11 y (wayC (S.r 19) kd md (bitW (S.r 1) 18) (bitW (S.r 1) 19)) Y2) := ⟨⟨h11⟩⟩
  have K11 : KpN w w11 := (K9.trans hk10).then k11 fun i hi (e : i = y) => by omega
  clear hby h11 k11 hk10 H9 P9 X9 K9
  go_wp2
  refine wp_region_vals 24 1 #[true, true, true, true, true, true, true, true, true, true, true, true, true, true, true, true, true, true, true, true, true, true, true, true, false] dw11 (vw11 S kd md va y bw pw) (by kernel_rfl) (by kernel_rfl) rfl ?_ ?_ ?_ ?_ ?_
  · intro i o hi ho
    rcases i with _ | _ | _ | _ | _ | _ | _ | _ | _ | _ | _ | _ | _ | _ | _ | _ | _ | _ | _ | _ | _ | _ | _ | _ | i
    all_goals first | (cases ho; rfl) | omega
  · intro i hi
    rcases i with _ | _ | _ | _ | _ | _ | _ | _ | _ | _ | _ | _ | _ | _ | _ | _ | _ | _ | _ | _ | _ | _ | _ | _ | i
    all_goals first | (show (_ : Nat) < 75; decide) | omega
  · intro i j hi hj h
    rcases i with _ | _ | _ | _ | _ | _ | _ | _ | _ | _ | _ | _ | _ | _ | _ | _ | _ | _ | _ | _ | _ | _ | _ | _ | i
    all_goals rcases j with _ | _ | _ | _ | _ | _ | _ | _ | _ | _ | _ | _ | _ | _ | _ | _ | _ | _ | _ | _ | _ | _ | _ | _ | j
    all_goals first | rfl | omega | (exact absurd h (by decide))
  · intro i o hi ho a' W hW hA hdep
    rcases i with _ | _ | _ | _ | _ | _ | _ | _ | _ | _ | _ | _ | _ | _ | _ | _ | _ | _ | _ | _ | _ | _ | _ | _ | i
    · cases ho
      exact gS_ld (wanted_none rfl _) rfl x (hA.old 11 (by decide)) YT (wayC (S.r 19) kd md (bitW (S.r 1) 18) (bitW (S.r 1) 19)) _ (XB.out.kp hW (fun h => h)).blk Try.underlying40 rfl infoY ⟨Kp.refl _ _, rfl⟩
    · cases ho
      exact gS_ld (wanted_none rfl _) rfl y (hA.old 12 (by decide)) Y2 (wayC (S.r 19) kd md (bitW (S.r 1) 18) (bitW (S.r 1) 19)) _ (YB.out.kp hW (fun h => h)).blk Try.underlying25 rfl infoY2 ⟨Kp.refl _ _, rfl⟩
    · cases ho
      have h0 : a'.eval (.tmp 52) = .agg (wayC (S.r 19) kd md (bitW (S.r 1) 18) (bitW (S.r 1) 19)) := hdep 1 (by decide) (by kernel_rfl)
      refine gS_ca (wanted_none rfl _) rfl Try.func13 (by kernel_rfl) rfl #[.agg (wayC (S.r 19) kd md (bitW (S.r 1) 18) (bitW (S.r 1) 19))] (by simp only [List.map_toArray, List.map_cons, List.map_nil]; rw [h0]) ?_
      exact (WY.out W).mono fun e w' h => ⟨_, h.1, h.2, rfl⟩
    · cases ho
      have h0 : a'.tmps.getD 51 undef = .agg (wayC (S.r 19) kd md (bitW (S.r 1) 18) (bitW (S.r 1) 19)) := hdep 0 (by decide) (by kernel_rfl)
      have h1 : a'.tmps.getD 53 undef = .agg (wayC (S.r 19) kd md (bitW (S.r 1) 18) (bitW (S.r 1) 19)) := hdep 2 (by decide) (by kernel_rfl)
      exact gS_bin (wanted_none rfl _) rfl _ _ _ h0 h1 (eq40 _ _ _ _ _ W _ _) ⟨Kp.refl _ _, rfl⟩
    · cases ho
      have h0 : a'.tmps.getD 54 undef = .bool true := hdep 3 (by decide) (by kernel_rfl)
      exact gS_mv (wanted_none rfl _) rfl _ h0 ⟨Kp.refl _ _, rfl⟩
    · cases ho
      have hg : a'.tmps.getD 55 undef = .bool true := hdep 4 (by decide) (by kernel_rfl)
      exact gS_ld (wanted_y rfl rfl hg) rfl x (hA.old 11 (by decide)) YT (wayC (S.r 19) kd md (bitW (S.r 1) 18) (bitW (S.r 1) 19)) _ (XB.out.kp hW (fun h => h)).blk Try.underlying40 rfl infoY ⟨Kp.refl _ _, rfl⟩
    · cases ho
      have hg : a'.tmps.getD 55 undef = .bool true := hdep 4 (by decide) (by kernel_rfl)
      have h0 : a'.eval (.tmp 56) = .agg (wayC (S.r 19) kd md (bitW (S.r 1) 18) (bitW (S.r 1) 19)) := hdep 5 (by decide) (by kernel_rfl)
      refine gS_ca (wanted_y rfl rfl hg) rfl Try.func24 (by kernel_rfl) rfl #[.agg (wayC (S.r 19) kd md (bitW (S.r 1) 18) (bitW (S.r 1) 19))] (by simp only [List.map_toArray, List.map_cons, List.map_nil]; rw [h0]) ?_
      exact (BA.out W).mono fun e w' h => ⟨_, h.1, h.2, rfl⟩
    · cases ho
      have hg : a'.tmps.getD 55 undef = .bool true := hdep 4 (by decide) (by kernel_rfl)
      exact gS_ld (wanted_y rfl rfl hg) rfl y (hA.old 12 (by decide)) Y2 (wayC (S.r 19) kd md (bitW (S.r 1) 18) (bitW (S.r 1) 19)) _ (YB.out.kp hW (fun h => h)).blk Try.underlying25 rfl infoY2 ⟨Kp.refl _ _, rfl⟩
    · cases ho
      have hg : a'.tmps.getD 55 undef = .bool true := hdep 4 (by decide) (by kernel_rfl)
      have h0 : a'.eval (.tmp 58) = .agg (wayC (S.r 19) kd md (bitW (S.r 1) 18) (bitW (S.r 1) 19)) := hdep 7 (by decide) (by kernel_rfl)
      refine gS_ca (wanted_y rfl rfl hg) rfl Try.func25 (by kernel_rfl) rfl #[.agg (wayC (S.r 19) kd md (bitW (S.r 1) 18) (bitW (S.r 1) 19))] (by simp only [List.map_toArray, List.map_cons, List.map_nil]; rw [h0]) ?_
      exact (BR.out W).mono fun e w' h => ⟨_, h.1, h.2, rfl⟩
    · cases ho
      have hg : a'.tmps.getD 55 undef = .bool true := hdep 4 (by decide) (by kernel_rfl)
      have h0 : a'.tmps.getD 57 undef = .bool bw := hdep 6 (by decide) (by kernel_rfl)
      have h1 : a'.tmps.getD 59 undef = .bool bw := hdep 8 (by decide) (by kernel_rfl)
      exact gS_bin (wanted_y rfl rfl hg) rfl _ _ _ h0 h1 (eqb4 bw W _ _) ⟨Kp.refl _ _, rfl⟩
    · cases ho
      have h0 : a'.tmps.getD 55 undef = .bool true := hdep 4 (by decide) (by kernel_rfl)
      have h1 : a'.tmps.getD 60 undef = .bool true := hdep 9 (by decide) (by kernel_rfl)
      exact gS_pick (wanted_none rfl _) rfl true _ h0 h1 ⟨Kp.refl _ _, rfl⟩
    · cases ho
      have h0 : a'.tmps.getD 61 undef = .bool true := hdep 10 (by decide) (by kernel_rfl)
      exact gS_mv (wanted_none rfl _) rfl _ h0 ⟨Kp.refl _ _, rfl⟩
    · cases ho
      have hg : a'.tmps.getD 62 undef = .bool true := hdep 11 (by decide) (by kernel_rfl)
      have h0 : a'.tmps.getD 2 undef = .int .u64 (va : Int) := hA.old 2 (by decide)
      exact gS_mv (wanted_y rfl rfl hg) rfl _ h0 ⟨Kp.refl _ _, rfl⟩
    · cases ho
      have hg : a'.tmps.getD 62 undef = .bool true := hdep 11 (by decide) (by kernel_rfl)
      have h0 : a'.eval (.tmp 63) = .int .u64 (va : Int) := hdep 12 (by decide) (by kernel_rfl)
      refine gS_ca (wanted_y rfl rfl hg) rfl Try.func26 (by kernel_rfl) rfl #[.int .u64 (va : Int)] (by simp only [List.map_toArray, List.map_cons, List.map_nil]; rw [h0]) ?_
      exact (PA.out W).mono fun e w' h => ⟨_, h.1, h.2, rfl⟩
    · cases ho
      have hg : a'.tmps.getD 62 undef = .bool true := hdep 11 (by decide) (by kernel_rfl)
      have h0 : a'.tmps.getD 2 undef = .int .u64 (va : Int) := hA.old 2 (by decide)
      exact gS_mv (wanted_y rfl rfl hg) rfl _ h0 ⟨Kp.refl _ _, rfl⟩
    · cases ho
      have hg : a'.tmps.getD 62 undef = .bool true := hdep 11 (by decide) (by kernel_rfl)
      have h0 : a'.eval (.tmp 65) = .int .u64 (va : Int) := hdep 14 (by decide) (by kernel_rfl)
      refine gS_ca (wanted_y rfl rfl hg) rfl Try.func27 (by kernel_rfl) rfl #[.int .u64 (va : Int)] (by simp only [List.map_toArray, List.map_cons, List.map_nil]; rw [h0]) ?_
      exact (PR.out W).mono fun e w' h => ⟨_, h.1, h.2, rfl⟩
    · cases ho
      have hg : a'.tmps.getD 62 undef = .bool true := hdep 11 (by decide) (by kernel_rfl)
      have h0 : a'.tmps.getD 64 undef = .bool pw := hdep 13 (by decide) (by kernel_rfl)
      have h1 : a'.tmps.getD 66 undef = .bool pw := hdep 15 (by decide) (by kernel_rfl)
      exact gS_bin (wanted_y rfl rfl hg) rfl _ _ _ h0 h1 (eqb4 pw W _ _) ⟨Kp.refl _ _, rfl⟩
    · cases ho
      have h0 : a'.tmps.getD 62 undef = .bool true := hdep 11 (by decide) (by kernel_rfl)
      have h1 : a'.tmps.getD 67 undef = .bool true := hdep 16 (by decide) (by kernel_rfl)
      exact gS_pick (wanted_none rfl _) rfl true _ h0 h1 ⟨Kp.refl _ _, rfl⟩
    · cases ho
      have h0 : a'.tmps.getD 68 undef = .bool true := hdep 17 (by decide) (by kernel_rfl)
      exact gS_mv (wanted_none rfl _) rfl _ h0 ⟨Kp.refl _ _, rfl⟩
    · cases ho
      have hg : a'.tmps.getD 69 undef = .bool true := hdep 18 (by decide) (by kernel_rfl)
      have h0 : a'.eval (.tmp 7) = .pointer (some ⟨f, 0, none⟩) := hA.old 7 (by decide)
      refine gS_ca (wanted_y rfl rfl hg) rfl Try.func28 (by kernel_rfl) rfl #[.pointer (some ⟨f, 0, none⟩), .int .i64 18] (by simp only [List.map_toArray, List.map_cons, List.map_nil]; rw [h0]; rfl) ?_
      exact (IS.out f W (H10.out.kp hW (fun h => h))).mono fun e w' h => ⟨_, h.1, h.2, rfl⟩
    · cases ho
      have hg : a'.tmps.getD 69 undef = .bool true := hdep 18 (by decide) (by kernel_rfl)
      have h0 : a'.tmps.getD 12 undef = .pointer (some ⟨y, 0, none⟩) := hA.old 12 (by decide)
      exact gS_fa (wanted_y rfl rfl hg) rfl _ _ h0 (fa25_3 y W) ⟨Kp.refl _ _, rfl⟩
    · cases ho
      have hg : a'.tmps.getD 69 undef = .bool true := hdep 18 (by decide) (by kernel_rfl)
      have h0 : a'.tmps.getD 71 undef = .pointer (some ⟨y, 3, none⟩) := hdep 20 (by decide) (by kernel_rfl)
      exact gS_load (wanted_y rfl rfl hg) rfl _ _ h0 (ld4 _ _ W ((YB.out.kp hW (fun h => h)).c 3)) ⟨Kp.refl _ _, rfl⟩
    · cases ho
      have hg : a'.tmps.getD 69 undef = .bool true := hdep 18 (by decide) (by kernel_rfl)
      have h0 : a'.tmps.getD 70 undef = .bool (bitW (S.r 1) 18) := hdep 19 (by decide) (by kernel_rfl)
      have h1 : a'.tmps.getD 72 undef = .bool (bitW (S.r 1) 18) := hdep 21 (by decide) (by kernel_rfl)
      exact gS_bin (wanted_y rfl rfl hg) rfl _ _ _ h0 h1 (eqb4 (bitW (S.r 1) 18) W _ _) ⟨Kp.refl _ _, rfl⟩
    · cases ho
      have h0 : a'.tmps.getD 69 undef = .bool true := hdep 18 (by decide) (by kernel_rfl)
      have h1 : a'.tmps.getD 73 undef = .bool true := hdep 22 (by decide) (by kernel_rfl)
      exact gS_pick (wanted_none rfl _) rfl true _ h0 h1 ⟨Kp.refl _ _, rfl⟩
    · omega
  intro w12 hk12
  have K12 := K11.trans hk12
  simp only [putN, dw11, vw11, Act.put, List.setIfInBounds_toArray, List.set_cons_zero, List.set_cons_succ]
  refine any_1 (i := 24) (by kernel_rfl) rfl rfl (wp_asw rfl 6 rfl (.bool true) rfl ?_)
  refine wpAny_done (by kernel_rfl) ?_ _
  simp only [Act.put, List.setIfInBounds_toArray, List.set_cons_zero, List.set_cons_succ]
  go_wp2
  go_ret
  exact ⟨rfl, K12.below (fun _ _ h => h.elim) (Nat.le_refl _)⟩
set_option maxHeartbeats 8000000 in
set_option maxRecDepth 100000 in
theorem ways_plain (m : Int) (A : Option Addr) (c : Nat) (l : Nat) (xs : List WR) (kd : Int) (va : Nat) (w : World) (hC : Kd.C k92 w A xs.length xs) (hx : wrOk xs) (hl : U l) (hva : U va) (hb : bgOk m xs.length) (hk0 : kd ≠ 0) (h3 : (bgF m xs l).m = 3) (h17 : bitW ((bgF m xs l).r 1) 17 = false):
    Calls Try.prog 7 #[.agg (startC m A xs.length c (l : Int)), .int .i64 kd, .int .u64 (va : Int)] w fun e w' => e = .returned (.bool true) ∧ Below w.heap.size w w' := by
  have AW := Aside0.mk awake10_c
  have Hb := Aside0.mk hb
  have hRel := Rel.bg hx m l
  have hF : (bgF m xs l).ok := VS.set_ok (foldF_ok hx _) 6 hl.and
  have hR : (bgR m xs l).ok := VS.set_ok (foldR_ok hx _) 3 hl.and
  obtain ⟨S, hS⟩ : ∃ S, bgF m xs l = S := ⟨_, rfl⟩
  obtain ⟨R, hRR⟩ : ∃ R, bgR m xs l = R := ⟨_, rfl⟩
  rw [hS] at hF hRel
  rw [hRR] at hR hRel
  have by_ := fun w hC => begun_yes m A c l xs w Hb.out hC hx hl
  rw [hS, hRR] at by_
  have By := Aside0.mk by_
  have hS0 := hS
  clear by_ hS hRR hb
  have e1 : R.r 1 = S.r 1 := hRel.r1w
  have em : R.m = S.m := hRel.m.symm
  have J : ∀ n : Int, Aside0 (∀ W, Calls Try.prog 21 #[.agg R.cells, .int .i64 n] W fun e w' => e = .returned (.bool (bitW (S.r 1) n)) ∧ KpN W w') := fun n => ⟨fun W => by rw [← e1]; exact is_rk R n W hR⟩
  have J17 := J 17
  have J18 := J 18
  have J19 := J 19
  clear J
  have OF : Aside0 (∀ (g : Nat) W, St FT W g S → Calls Try.prog 23 #[.pointer (some ⟨g, 0, none⟩), .int .i64 kd] W fun e w' => e = .returned (.agg (wayC (S.r 19) kd (ofM S kd) (bitW (S.r 1) 18) (bitW (S.r 1) 19))) ∧ KpN W w') := ⟨fun g W h => sv_of_c g S kd W h hF⟩
  have IS : Aside0 (∀ (g : Nat) W, St FT W g S → Calls Try.prog 28 #[.pointer (some ⟨g, 0, none⟩), .int .i64 18] W fun e w' => e = .returned (.bool (bitW (S.r 1) 18)) ∧ KpN W w') := ⟨fun g W h => (is_c g S 18 W h hF).mono fun e w' q => ⟨q.1, by obtain ⟨m, hm⟩ := q.2; rw [hm]; exact (Kp.refl _ _).drewN m⟩⟩
  obtain ⟨md, hmd⟩ : ∃ md, ofM S kd = md := ⟨_, rfl⟩
  rw [hmd] at OF
  have WY : Aside0 (∀ W, Calls Try.prog 13 #[.agg (wayC (S.r 19) kd md (bitW (S.r 1) 18) (bitW (S.r 1) 19))] W fun e w' => e = .returned (.agg (wayC (S.r 19) kd md (bitW (S.r 1) 18) (bitW (S.r 1) 19))) ∧ KpN W w') := ⟨way_c _ _ _ _ _⟩
  obtain ⟨bw, hbw⟩ : ∃ b, bareW (S.r 19) md = b := ⟨_, rfl⟩
  obtain ⟨pw, hpw⟩ : ∃ b, properW va = b := ⟨_, rfl⟩
  have BA : Aside0 (∀ W, Calls Try.prog 24 #[.agg (wayC (S.r 19) kd md (bitW (S.r 1) 18) (bitW (S.r 1) 19))] W fun e w' => e = .returned (.bool bw) ∧ KpN W w') := ⟨fun W => by rw [← hbw]; exact bare_c _ _ _ _ _ W (hF 19)⟩
  have BR : Aside0 (∀ W, Calls Try.prog 25 #[.agg (wayC (S.r 19) kd md (bitW (S.r 1) 18) (bitW (S.r 1) 19))] W fun e w' => e = .returned (.bool bw) ∧ KpN W w') := ⟨fun W => by rw [← hbw]; exact rbare_k _ _ _ _ _ W (hF 19)⟩
  have PA : Aside0 (∀ W, Calls Try.prog 26 #[.int .u64 (va : Int)] W fun e w' => e = .returned (.bool pw) ∧ KpN W w') := ⟨fun W => by rw [← hpw]; exact (proper_c va W hva).mono fun e w' q => ⟨q.1, by obtain ⟨m, hm⟩ := q.2; rw [hm]; exact (Kp.refl _ _).drewN m⟩⟩
  have PR : Aside0 (∀ W, Calls Try.prog 27 #[.int .u64 (va : Int)] W fun e w' => e = .returned (.bool pw) ∧ KpN W w') := ⟨fun W => by rw [← hpw]; exact rproper_k va W hva⟩
  have GE : Aside0 (∀ W, Calls Try.prog 22 #[.int .u64 (S.r 1 : Int), .int .i64 11, .int .i64 2] W fun e w' => e = .returned (.int .u64 ((getW (S.r 1) 11 2 : Nat) : Int)) ∧ KpN W w') := ⟨fun W => getr_k2 _ _ _ W (hF 1)⟩
  have g4 : getW (S.r 1) 11 2 < 4 := get2_lt _ _
  have EC : Aside0 (IntKind.i64.wrap ((getW (S.r 1) 11 2 : Nat) : Int) = ((getW (S.r 1) 11 2 : Nat) : Int)) := ⟨by rw [IntKind.wrap_i64]; omega⟩
  clear hbw hpw hF hR
  rw [hS0] at h3 h17
  have hmS : S.m = md := by rw [← hmd, ofM, if_neg (fun h => by rw [h17] at h; cases h.2.2)]
  have HmR : Aside0 (R.m = md) := ⟨em.trans hmS⟩
  rw [h17] at J17
  have t0 : (kd == 0) = false := beq_eq_false_iff_ne.2 hk0
  have t1 : (kd != 0) = true := by rw [bne, t0]; rfl
  have t2 : (md == 3) = true := beq_iff_eq.2 (hmS.symm.trans h3)
  clear hS0 h3 h17 hmS hmd hk0 em e1 hRel g4 EC GE
  go_enter Try.func7, Try.ntmps7
  go_wp2_with (first
    | ((with_reducible refine gate_dst (N := 3) rfl ?_); refine bx_ev rfl rfl (N := 3) rfl (startC m A xs.length c (l : Int)) rfl ?_; intro g hg_g w1 hb_g hk_g; have Hg_g := Aside0.mk hg_g; clear hg_g)
    | (go_at_call 8; refine (AW.out _).mono ?_; rintro e w2 ⟨rfl, hk2⟩; have hG2 := (Bk.mk hb_g).kp hk2 (fun h => h); have hC2 : Kd.C k92 w2 A xs.length xs := Kd.C_below hC ((hk_g.trans hk2).below (fun _ _ h => h.elim) (Nat.le_refl _)))
    | ((with_reducible refine gate_dst (N := 16) rfl ?_); refine wpList_load_row rfl 52 _ rfl g rfl _ (startC m A xs.length c (l : Int)) (0, 0) _ (hG2.blk) Try.underlying52 rfl infoStart ?_)
    | (go_at_call 20; refine (By.out _ hC2).mono ?_; rintro e w3 ⟨rfl, hk3⟩)
    | ((with_reducible refine gate_dst (N := 7) rfl ?_); refine al_ev rfl rfl (N := 7) rfl _ (zeroF _) ?_; intro f hg_f w4 hb_f hk_f; have Hg_f := Aside0.mk hg_f; clear hg_f)
    | ((with_reducible refine gate_dst (N := 8) rfl ?_); refine al_ev rfl rfl (N := 8) rfl _ (zeroR _) ?_; intro p hg_p w5 hb_p hk_p; have Hg_p := Aside0.mk hg_p; clear hg_p)
    | (((with_reducible refine gate_store (t := 54) (p := 7) rfl ?_); refine st_ev rfl rfl rfl f (S.cells) _ _ rfl rfl (((Bk.mk hb_f).kp hk_p (fun h => h)).blk) infoF rfl (VS.one _) ?_; intro w6 hs_w6 ks_w6); have hpf : p ≠ f := (by have := Hg_p.out; have := blk_lt hb_f; omega); have hP6 := (Bk.mk hb_p).kp ks_w6 hpf)
    | (((with_reducible refine gate_store (t := 57) (p := 8) rfl ?_); refine st_ev rfl rfl rfl p (R.cells) _ _ rfl rfl (hP6.blk) infoR rfl (VS.one _) ?_; intro w7 hs_w7 ks_w7); have hI : St FT w7 f S := (St.mk hs_w6).kp ks_w7 (fun e : f = p => hpf e.symm); have hP : Bk w7 p R.cells RT := Bk.mk hs_w7; have hfw : w.heap.size ≤ f := (by have := Hg_f.out; have := ((hk_g.trans hk2).trans hk3).size; omega); have hpw_ : w.heap.size ≤ p := (by have := Hg_p.out; have := (((hk_g.trans hk2).trans hk3).trans hk_f).size; omega); have K7 : KpN w w7 := ((((((hk_g.trans hk2).trans hk3).trans hk_f).trans hk_p).then ks_w6 fun i hi (e : i = f) => by omega).then ks_w7 fun i hi (e : i = p) => by omega); have c7 : w7.cell? ⟨p, 0, none⟩ = some (.int .i64 md) := (by rw [← HmR.out]; exact hP.c 0); clear hb_g hk_g Hg_g hk2 hG2 hC2 hk3 hb_f hk_f Hg_f hb_p hk_p Hg_p hs_w6 ks_w6 hP6 hs_w7 ks_w7)
    | ((with_reducible refine gate_dst (N := 33) rfl ?_); refine wpList_in (by rfl) (wp_load_row 57 _ rfl p rfl _ (R.cells) (0, 0) _ (hP.blk) Try.underlying57 rfl infoR ?_))
    | (go_at_call 21; refine (J17.out _).mono ?_; rintro e w8 ⟨rfl, hk8a⟩; have hI8 := hI.kp hk8a (fun h => h); have hP8 := hP.kp hk8a (fun h => h); have K8a := K7.trans hk8a; have c1f : w8.cell? ⟨f, 1, none⟩ = some (.int .u64 (S.r 1 : Int)) := hI8.c 1)
    | (go_at_call 23; refine (OF.out f _ hI8).mono ?_; rintro e W8 ⟨rfl, hk8⟩; have I8 := (hI8).kp hk8 (fun h => h); have P8 := (hP8).kp hk8 (fun h => h); have K8 := (K8a).trans hk8)
    | ((with_reducible refine gate_dst (N := 11) rfl ?_); refine al_ev rfl rfl (N := 11) rfl _ (zeroY _) ?_; intro x hg_x W8b hb_x hk_x; have Hg_x := Aside0.mk hg_x; clear hg_x)
    | (((with_reducible refine gate_store (t := 40) (p := 11) rfl ?_); refine st_ev rfl rfl rfl x (wayC (S.r 19) kd md (bitW (S.r 1) 18) (bitW (S.r 1) 19)) _ _ rfl rfl (hb_x) infoY rfl (wayC_one _ _ _ _ _) ?_; intro W9 hs_W9 ks_W9); have hfx : f ≠ x := (by have := Hg_x.out; have := I8.lt; omega); have hpx : p ≠ x := (by have := Hg_x.out; have := blk_lt P8.blk; omega); have hwx0 : Aside0 (w.heap.size ≤ x) := ⟨(by have := Hg_x.out; have := K8.size; omega)⟩; have I9 := (I8.kp hk_x (fun h => h)).kp ks_W9 hfx; have P9_ := (P8.kp hk_x (fun h => h)).kp ks_W9 hpx; have X9 : Aside0 (Bk W9 x (wayC (S.r 19) kd md (bitW (S.r 1) 18) (bitW (S.r 1) 19)) YT) := ⟨⟨hs_W9⟩⟩; have K9 : KpN w W9 := (K8.trans hk_x).then ks_W9 fun i hi (e : i = x) => by have := hwx0.out; omega))
  have H9 := Aside0.mk I9
  have P9 := Aside0.mk P9_
  have hwx : w.heap.size ≤ x := hwx0.out
  clear hwx0
  refine wp_region_slots 10 1 #[true, true, true, true, true, true, true, true, true, true, false] dw10 (rw10 W9 f S R kd md) (fun i => decide (9 ≤ i)) (by kernel_rfl) (by kernel_rfl) rfl ?_ ?_ ?_ (fun i v w w' _ => rw10_stab i v w w') ?_ ?_
  · intro i o hi ho
    rcases i with _ | _ | _ | _ | _ | _ | _ | _ | _ | _ | i
    all_goals first | (cases ho; rfl) | omega
  · intro i hi
    rcases i with _ | _ | _ | _ | _ | _ | _ | _ | _ | _ | i
    all_goals first | (show (_ : Nat) < 75; decide) | omega
  · intro i j hi hj h
    rcases i with _ | _ | _ | _ | _ | _ | _ | _ | _ | _ | i
    all_goals rcases j with _ | _ | _ | _ | _ | _ | _ | _ | _ | _ | j
    all_goals first | rfl | omega | (exact absurd h (by decide))
  · intro i o hi ho a' W hW hA hdep
    rcases i with _ | _ | _ | _ | _ | _ | _ | _ | _ | _ | i
    · cases ho
      have h0 : a'.tmps.getD 7 undef = .pointer (some ⟨f, 0, none⟩) := hA.old 7 (by decide)
      exact gS_fa (wanted_none rfl _) rfl _ _ h0 (fa54_19 f W) ⟨Kp.refl _ _, rfl, fun h => by cases h⟩
    · cases ho
      have h0 : a'.tmps.getD 42 undef = .pointer (some ⟨f, 19, none⟩) := hdep 0 (by decide) (by kernel_rfl)
      exact gS_load (wanted_none rfl _) rfl _ _ h0 (ld23w _ _ W ((H9.out.kp hW (fun h => h)).c 19)) ⟨Kp.refl _ _, rfl, fun h => by cases h⟩
    · cases ho
      have h0 : a'.tmps.getD 1 undef = .int .i64 kd := hA.old 1 (by decide)
      exact gS_mv (wanted_none rfl _) rfl _ h0 ⟨Kp.refl _ _, rfl, fun h => by cases h⟩
    · cases ho
      have h0 : a'.tmps.getD 10 undef = .int .i64 md := hA.old 10 (by decide)
      exact gS_mv (wanted_none rfl _) rfl _ h0 ⟨Kp.refl _ _, rfl, fun h => by cases h⟩
    · cases ho
      exact gS_ld (wanted_none rfl _) rfl p (hA.old 8 (by decide)) RT (R.cells) _ (P9.out.kp hW (fun h => h)).blk Try.underlying57 rfl infoR ⟨Kp.refl _ _, rfl, fun h => by cases h⟩
    · cases ho
      have h0 : a'.eval (.tmp 46) = .agg R.cells := hdep 4 (by decide) (by kernel_rfl)
      refine gS_ca (wanted_none rfl _) rfl Try.func21 (by kernel_rfl) rfl #[.agg R.cells, .int .i64 18] (by simp only [List.map_toArray, List.map_cons, List.map_nil]; rw [h0]; rfl) ?_
      exact (J18.out W).mono fun e w' h => ⟨_, h.1, h.2, rfl, fun h => by cases h⟩
    · cases ho
      exact gS_ld (wanted_none rfl _) rfl p (hA.old 8 (by decide)) RT (R.cells) _ (P9.out.kp hW (fun h => h)).blk Try.underlying57 rfl infoR ⟨Kp.refl _ _, rfl, fun h => by cases h⟩
    · cases ho
      have h0 : a'.eval (.tmp 48) = .agg R.cells := hdep 6 (by decide) (by kernel_rfl)
      refine gS_ca (wanted_none rfl _) rfl Try.func21 (by kernel_rfl) rfl #[.agg R.cells, .int .i64 19] (by simp only [List.map_toArray, List.map_cons, List.map_nil]; rw [h0]; rfl) ?_
      exact (J19.out W).mono fun e w' h => ⟨_, h.1, h.2, rfl, fun h => by cases h⟩
    · cases ho
      have h0 : a'.eval (.tmp 43) = .int .u64 (S.r 19 : Int) := hdep 1 (by decide) (by kernel_rfl)
      have h1 : a'.eval (.tmp 44) = .int .i64 kd := hdep 2 (by decide) (by kernel_rfl)
      have h2 : a'.eval (.tmp 45) = .int .i64 md := hdep 3 (by decide) (by kernel_rfl)
      have h3 : a'.eval (.tmp 47) = .bool (bitW (S.r 1) 18) := hdep 5 (by decide) (by kernel_rfl)
      have h4 : a'.eval (.tmp 49) = .bool (bitW (S.r 1) 19) := hdep 7 (by decide) (by kernel_rfl)
      exact gS_bd (wanted_none rfl _) rfl _ _ (by simp only [List.map_toArray, List.map_cons, List.map_nil]; rw [h0, h1, h2, h3, h4]) (bd25 _ _ _ _ _ W) ⟨Kp.refl _ _, rfl, fun h => by cases h⟩
    · cases ho
      exact gS_al (wanted_none rfl _) rfl zY (zeroY2 _) fun x hx w1 hb hk => ⟨hk, ⟨x, rfl, hb, by have := hW.size; omega⟩, fun _ => ⟨by show _ ≤ x; omega, blk_lt hb⟩⟩
    · omega
  intro v w10 hk10 hr _
  have v0 : v 0 = .pointer (some ⟨f, 19, none⟩) := hr 0 (by decide)
  have v1 : v 1 = .int .u64 (S.r 19 : Int) := hr 1 (by decide)
  have v2 : v 2 = .int .i64 kd := hr 2 (by decide)
  have v3 : v 3 = .int .i64 md := hr 3 (by decide)
  have v4 : v 4 = .agg R.cells := hr 4 (by decide)
  have v5 : v 5 = .bool (bitW (S.r 1) 18) := hr 5 (by decide)
  have v6 : v 6 = .agg R.cells := hr 6 (by decide)
  have v7 : v 7 = .bool (bitW (S.r 1) 19) := hr 7 (by decide)
  have v8 : v 8 = .agg (wayC (S.r 19) kd md (bitW (S.r 1) 18) (bitW (S.r 1) 19)) := hr 8 (by decide)
  obtain ⟨y, v9, hby, hgy⟩ := hr 9 (by decide)
  have hxy : x ≠ y := by have := blk_lt X9.out.blk; omega
  have hwy : w.heap.size ≤ y := Nat.le_trans K9.size hgy
  have hfy : f ≠ y := by have := H9.out.lt; omega
  clear hr hgy
  simp only [putN, dw10, v0, v1, v2, v3, v4, v5, v6, v7, v8, v9, Act.put, List.setIfInBounds_toArray, List.set_cons_zero, List.set_cons_succ]
  clear v0 v1 v2 v3 v4 v5 v6 v7 v8 v9
  refine any_1 (i := 10) (by kernel_rfl) rfl rfl (wp_st rfl rfl y (wayC (S.r 19) kd md (bitW (S.r 1) 18) (bitW (S.r 1) 19)) zY Y2 rfl rfl hby infoY2 rfl (wayC_one _ _ _ _ _) fun w11 h11 k11 => ?_)
  refine wpAny_done (by kernel_rfl) ?_ _
  have H10 := Aside0.mk ((H9.out.kp hk10 (fun h => h)).kp k11 hfy)
  have XB := Aside0.mk ((X9.out.kp hk10 (fun h => h)).kp k11 hxy)
  have YB : Aside0 (Bk w11 y (wayC (S.r 19) kd md (bitW (S.r 1) 18) (bitW (S.r 1) 19)) Y2) := ⟨⟨h11⟩⟩
  have K11 : KpN w w11 := (K9.trans hk10).then k11 fun i hi (e : i = y) => by omega
  clear hby h11 k11 hk10 H9 P9 X9 K9
  go_wp2
  refine wp_region_vals 24 1 #[true, true, true, true, true, true, true, true, true, true, true, true, true, true, true, true, true, true, true, true, true, true, true, true, false] dw11 (vw11 S kd md va y bw pw) (by kernel_rfl) (by kernel_rfl) rfl ?_ ?_ ?_ ?_ ?_
  · intro i o hi ho
    rcases i with _ | _ | _ | _ | _ | _ | _ | _ | _ | _ | _ | _ | _ | _ | _ | _ | _ | _ | _ | _ | _ | _ | _ | _ | i
    all_goals first | (cases ho; rfl) | omega
  · intro i hi
    rcases i with _ | _ | _ | _ | _ | _ | _ | _ | _ | _ | _ | _ | _ | _ | _ | _ | _ | _ | _ | _ | _ | _ | _ | _ | i
    all_goals first | (show (_ : Nat) < 75; decide) | omega
  · intro i j hi hj h
    rcases i with _ | _ | _ | _ | _ | _ | _ | _ | _ | _ | _ | _ | _ | _ | _ | _ | _ | _ | _ | _ | _ | _ | _ | _ | i
    all_goals rcases j with _ | _ | _ | _ | _ | _ | _ | _ | _ | _ | _ | _ | _ | _ | _ | _ | _ | _ | _ | _ | _ | _ | _ | _ | j
    all_goals first | rfl | omega | (exact absurd h (by decide))
  · intro i o hi ho a' W hW hA hdep
    rcases i with _ | _ | _ | _ | _ | _ | _ | _ | _ | _ | _ | _ | _ | _ | _ | _ | _ | _ | _ | _ | _ | _ | _ | _ | i
    · cases ho
      exact gS_ld (wanted_none rfl _) rfl x (hA.old 11 (by decide)) YT (wayC (S.r 19) kd md (bitW (S.r 1) 18) (bitW (S.r 1) 19)) _ (XB.out.kp hW (fun h => h)).blk Try.underlying40 rfl infoY ⟨Kp.refl _ _, rfl⟩
    · cases ho
      exact gS_ld (wanted_none rfl _) rfl y (hA.old 12 (by decide)) Y2 (wayC (S.r 19) kd md (bitW (S.r 1) 18) (bitW (S.r 1) 19)) _ (YB.out.kp hW (fun h => h)).blk Try.underlying25 rfl infoY2 ⟨Kp.refl _ _, rfl⟩
    · cases ho
      have h0 : a'.eval (.tmp 52) = .agg (wayC (S.r 19) kd md (bitW (S.r 1) 18) (bitW (S.r 1) 19)) := hdep 1 (by decide) (by kernel_rfl)
      refine gS_ca (wanted_none rfl _) rfl Try.func13 (by kernel_rfl) rfl #[.agg (wayC (S.r 19) kd md (bitW (S.r 1) 18) (bitW (S.r 1) 19))] (by simp only [List.map_toArray, List.map_cons, List.map_nil]; rw [h0]) ?_
      exact (WY.out W).mono fun e w' h => ⟨_, h.1, h.2, rfl⟩
    · cases ho
      have h0 : a'.tmps.getD 51 undef = .agg (wayC (S.r 19) kd md (bitW (S.r 1) 18) (bitW (S.r 1) 19)) := hdep 0 (by decide) (by kernel_rfl)
      have h1 : a'.tmps.getD 53 undef = .agg (wayC (S.r 19) kd md (bitW (S.r 1) 18) (bitW (S.r 1) 19)) := hdep 2 (by decide) (by kernel_rfl)
      exact gS_bin (wanted_none rfl _) rfl _ _ _ h0 h1 (eq40 _ _ _ _ _ W _ _) ⟨Kp.refl _ _, rfl⟩
    · cases ho
      have h0 : a'.tmps.getD 54 undef = .bool true := hdep 3 (by decide) (by kernel_rfl)
      exact gS_mv (wanted_none rfl _) rfl _ h0 ⟨Kp.refl _ _, rfl⟩
    · cases ho
      have hg : a'.tmps.getD 55 undef = .bool true := hdep 4 (by decide) (by kernel_rfl)
      exact gS_ld (wanted_y rfl rfl hg) rfl x (hA.old 11 (by decide)) YT (wayC (S.r 19) kd md (bitW (S.r 1) 18) (bitW (S.r 1) 19)) _ (XB.out.kp hW (fun h => h)).blk Try.underlying40 rfl infoY ⟨Kp.refl _ _, rfl⟩
    · cases ho
      have hg : a'.tmps.getD 55 undef = .bool true := hdep 4 (by decide) (by kernel_rfl)
      have h0 : a'.eval (.tmp 56) = .agg (wayC (S.r 19) kd md (bitW (S.r 1) 18) (bitW (S.r 1) 19)) := hdep 5 (by decide) (by kernel_rfl)
      refine gS_ca (wanted_y rfl rfl hg) rfl Try.func24 (by kernel_rfl) rfl #[.agg (wayC (S.r 19) kd md (bitW (S.r 1) 18) (bitW (S.r 1) 19))] (by simp only [List.map_toArray, List.map_cons, List.map_nil]; rw [h0]) ?_
      exact (BA.out W).mono fun e w' h => ⟨_, h.1, h.2, rfl⟩
    · cases ho
      have hg : a'.tmps.getD 55 undef = .bool true := hdep 4 (by decide) (by kernel_rfl)
      exact gS_ld (wanted_y rfl rfl hg) rfl y (hA.old 12 (by decide)) Y2 (wayC (S.r 19) kd md (bitW (S.r 1) 18) (bitW (S.r 1) 19)) _ (YB.out.kp hW (fun h => h)).blk Try.underlying25 rfl infoY2 ⟨Kp.refl _ _, rfl⟩
    · cases ho
      have hg : a'.tmps.getD 55 undef = .bool true := hdep 4 (by decide) (by kernel_rfl)
      have h0 : a'.eval (.tmp 58) = .agg (wayC (S.r 19) kd md (bitW (S.r 1) 18) (bitW (S.r 1) 19)) := hdep 7 (by decide) (by kernel_rfl)
      refine gS_ca (wanted_y rfl rfl hg) rfl Try.func25 (by kernel_rfl) rfl #[.agg (wayC (S.r 19) kd md (bitW (S.r 1) 18) (bitW (S.r 1) 19))] (by simp only [List.map_toArray, List.map_cons, List.map_nil]; rw [h0]) ?_
      exact (BR.out W).mono fun e w' h => ⟨_, h.1, h.2, rfl⟩
    · cases ho
      have hg : a'.tmps.getD 55 undef = .bool true := hdep 4 (by decide) (by kernel_rfl)
      have h0 : a'.tmps.getD 57 undef = .bool bw := hdep 6 (by decide) (by kernel_rfl)
      have h1 : a'.tmps.getD 59 undef = .bool bw := hdep 8 (by decide) (by kernel_rfl)
      exact gS_bin (wanted_y rfl rfl hg) rfl _ _ _ h0 h1 (eqb4 bw W _ _) ⟨Kp.refl _ _, rfl⟩
    · cases ho
      have h0 : a'.tmps.getD 55 undef = .bool true := hdep 4 (by decide) (by kernel_rfl)
      have h1 : a'.tmps.getD 60 undef = .bool true := hdep 9 (by decide) (by kernel_rfl)
      exact gS_pick (wanted_none rfl _) rfl true _ h0 h1 ⟨Kp.refl _ _, rfl⟩
    · cases ho
      have h0 : a'.tmps.getD 61 undef = .bool true := hdep 10 (by decide) (by kernel_rfl)
      exact gS_mv (wanted_none rfl _) rfl _ h0 ⟨Kp.refl _ _, rfl⟩
    · cases ho
      have hg : a'.tmps.getD 62 undef = .bool true := hdep 11 (by decide) (by kernel_rfl)
      have h0 : a'.tmps.getD 2 undef = .int .u64 (va : Int) := hA.old 2 (by decide)
      exact gS_mv (wanted_y rfl rfl hg) rfl _ h0 ⟨Kp.refl _ _, rfl⟩
    · cases ho
      have hg : a'.tmps.getD 62 undef = .bool true := hdep 11 (by decide) (by kernel_rfl)
      have h0 : a'.eval (.tmp 63) = .int .u64 (va : Int) := hdep 12 (by decide) (by kernel_rfl)
      refine gS_ca (wanted_y rfl rfl hg) rfl Try.func26 (by kernel_rfl) rfl #[.int .u64 (va : Int)] (by simp only [List.map_toArray, List.map_cons, List.map_nil]; rw [h0]) ?_
      exact (PA.out W).mono fun e w' h => ⟨_, h.1, h.2, rfl⟩
    · cases ho
      have hg : a'.tmps.getD 62 undef = .bool true := hdep 11 (by decide) (by kernel_rfl)
      have h0 : a'.tmps.getD 2 undef = .int .u64 (va : Int) := hA.old 2 (by decide)
      exact gS_mv (wanted_y rfl rfl hg) rfl _ h0 ⟨Kp.refl _ _, rfl⟩
    · cases ho
      have hg : a'.tmps.getD 62 undef = .bool true := hdep 11 (by decide) (by kernel_rfl)
      have h0 : a'.eval (.tmp 65) = .int .u64 (va : Int) := hdep 14 (by decide) (by kernel_rfl)
      refine gS_ca (wanted_y rfl rfl hg) rfl Try.func27 (by kernel_rfl) rfl #[.int .u64 (va : Int)] (by simp only [List.map_toArray, List.map_cons, List.map_nil]; rw [h0]) ?_
      exact (PR.out W).mono fun e w' h => ⟨_, h.1, h.2, rfl⟩
    · cases ho
      have hg : a'.tmps.getD 62 undef = .bool true := hdep 11 (by decide) (by kernel_rfl)
      have h0 : a'.tmps.getD 64 undef = .bool pw := hdep 13 (by decide) (by kernel_rfl)
      have h1 : a'.tmps.getD 66 undef = .bool pw := hdep 15 (by decide) (by kernel_rfl)
      exact gS_bin (wanted_y rfl rfl hg) rfl _ _ _ h0 h1 (eqb4 pw W _ _) ⟨Kp.refl _ _, rfl⟩
    · cases ho
      have h0 : a'.tmps.getD 62 undef = .bool true := hdep 11 (by decide) (by kernel_rfl)
      have h1 : a'.tmps.getD 67 undef = .bool true := hdep 16 (by decide) (by kernel_rfl)
      exact gS_pick (wanted_none rfl _) rfl true _ h0 h1 ⟨Kp.refl _ _, rfl⟩
    · cases ho
      have h0 : a'.tmps.getD 68 undef = .bool true := hdep 17 (by decide) (by kernel_rfl)
      exact gS_mv (wanted_none rfl _) rfl _ h0 ⟨Kp.refl _ _, rfl⟩
    · cases ho
      have hg : a'.tmps.getD 69 undef = .bool true := hdep 18 (by decide) (by kernel_rfl)
      have h0 : a'.eval (.tmp 7) = .pointer (some ⟨f, 0, none⟩) := hA.old 7 (by decide)
      refine gS_ca (wanted_y rfl rfl hg) rfl Try.func28 (by kernel_rfl) rfl #[.pointer (some ⟨f, 0, none⟩), .int .i64 18] (by simp only [List.map_toArray, List.map_cons, List.map_nil]; rw [h0]; rfl) ?_
      exact (IS.out f W (H10.out.kp hW (fun h => h))).mono fun e w' h => ⟨_, h.1, h.2, rfl⟩
    · cases ho
      have hg : a'.tmps.getD 69 undef = .bool true := hdep 18 (by decide) (by kernel_rfl)
      have h0 : a'.tmps.getD 12 undef = .pointer (some ⟨y, 0, none⟩) := hA.old 12 (by decide)
      exact gS_fa (wanted_y rfl rfl hg) rfl _ _ h0 (fa25_3 y W) ⟨Kp.refl _ _, rfl⟩
    · cases ho
      have hg : a'.tmps.getD 69 undef = .bool true := hdep 18 (by decide) (by kernel_rfl)
      have h0 : a'.tmps.getD 71 undef = .pointer (some ⟨y, 3, none⟩) := hdep 20 (by decide) (by kernel_rfl)
      exact gS_load (wanted_y rfl rfl hg) rfl _ _ h0 (ld4 _ _ W ((YB.out.kp hW (fun h => h)).c 3)) ⟨Kp.refl _ _, rfl⟩
    · cases ho
      have hg : a'.tmps.getD 69 undef = .bool true := hdep 18 (by decide) (by kernel_rfl)
      have h0 : a'.tmps.getD 70 undef = .bool (bitW (S.r 1) 18) := hdep 19 (by decide) (by kernel_rfl)
      have h1 : a'.tmps.getD 72 undef = .bool (bitW (S.r 1) 18) := hdep 21 (by decide) (by kernel_rfl)
      exact gS_bin (wanted_y rfl rfl hg) rfl _ _ _ h0 h1 (eqb4 (bitW (S.r 1) 18) W _ _) ⟨Kp.refl _ _, rfl⟩
    · cases ho
      have h0 : a'.tmps.getD 69 undef = .bool true := hdep 18 (by decide) (by kernel_rfl)
      have h1 : a'.tmps.getD 73 undef = .bool true := hdep 22 (by decide) (by kernel_rfl)
      exact gS_pick (wanted_none rfl _) rfl true _ h0 h1 ⟨Kp.refl _ _, rfl⟩
    · omega
  intro w12 hk12
  have K12 := K11.trans hk12
  simp only [putN, dw11, vw11, Act.put, List.setIfInBounds_toArray, List.set_cons_zero, List.set_cons_succ]
  refine any_1 (i := 24) (by kernel_rfl) rfl rfl (wp_asw rfl 6 rfl (.bool true) rfl ?_)
  refine wpAny_done (by kernel_rfl) ?_ _
  simp only [Act.put, List.setIfInBounds_toArray, List.set_cons_zero, List.set_cons_succ]
  go_wp2
  go_ret
  exact ⟨rfl, K12.below (fun _ _ h => h.elim) (Nat.le_refl _)⟩
set_option maxHeartbeats 8000000 in
set_option maxRecDepth 100000 in
theorem ways_prev (m : Int) (A : Option Addr) (c : Nat) (l : Nat) (xs : List WR) (kd : Int) (va : Nat) (w : World) (hC : Kd.C k92 w A xs.length xs) (hx : wrOk xs) (hl : U l) (hva : U va) (hb : bgOk m xs.length) (hk0 : kd ≠ 0) (h3 : (bgF m xs l).m = 3) (h17 : bitW ((bgF m xs l).r 1) 17 = true):
    Calls Try.prog 7 #[.agg (startC m A xs.length c (l : Int)), .int .i64 kd, .int .u64 (va : Int)] w fun e w' => e = .returned (.bool true) ∧ Below w.heap.size w w' := by
  have AW := Aside0.mk awake10_c
  have Hb := Aside0.mk hb
  have hRel := Rel.bg hx m l
  have hF : (bgF m xs l).ok := VS.set_ok (foldF_ok hx _) 6 hl.and
  have hR : (bgR m xs l).ok := VS.set_ok (foldR_ok hx _) 3 hl.and
  obtain ⟨S, hS⟩ : ∃ S, bgF m xs l = S := ⟨_, rfl⟩
  obtain ⟨R, hRR⟩ : ∃ R, bgR m xs l = R := ⟨_, rfl⟩
  rw [hS] at hF hRel
  rw [hRR] at hR hRel
  have by_ := fun w hC => begun_yes m A c l xs w Hb.out hC hx hl
  rw [hS, hRR] at by_
  have By := Aside0.mk by_
  have hS0 := hS
  clear by_ hS hRR hb
  have e1 : R.r 1 = S.r 1 := hRel.r1w
  have em : R.m = S.m := hRel.m.symm
  have J : ∀ n : Int, Aside0 (∀ W, Calls Try.prog 21 #[.agg R.cells, .int .i64 n] W fun e w' => e = .returned (.bool (bitW (S.r 1) n)) ∧ KpN W w') := fun n => ⟨fun W => by rw [← e1]; exact is_rk R n W hR⟩
  have J17 := J 17
  have J18 := J 18
  have J19 := J 19
  clear J
  have OF : Aside0 (∀ (g : Nat) W, St FT W g S → Calls Try.prog 23 #[.pointer (some ⟨g, 0, none⟩), .int .i64 kd] W fun e w' => e = .returned (.agg (wayC (S.r 19) kd (ofM S kd) (bitW (S.r 1) 18) (bitW (S.r 1) 19))) ∧ KpN W w') := ⟨fun g W h => sv_of_c g S kd W h hF⟩
  have IS : Aside0 (∀ (g : Nat) W, St FT W g S → Calls Try.prog 28 #[.pointer (some ⟨g, 0, none⟩), .int .i64 18] W fun e w' => e = .returned (.bool (bitW (S.r 1) 18)) ∧ KpN W w') := ⟨fun g W h => (is_c g S 18 W h hF).mono fun e w' q => ⟨q.1, by obtain ⟨m, hm⟩ := q.2; rw [hm]; exact (Kp.refl _ _).drewN m⟩⟩
  obtain ⟨md, hmd⟩ : ∃ md, ofM S kd = md := ⟨_, rfl⟩
  rw [hmd] at OF
  have WY : Aside0 (∀ W, Calls Try.prog 13 #[.agg (wayC (S.r 19) kd md (bitW (S.r 1) 18) (bitW (S.r 1) 19))] W fun e w' => e = .returned (.agg (wayC (S.r 19) kd md (bitW (S.r 1) 18) (bitW (S.r 1) 19))) ∧ KpN W w') := ⟨way_c _ _ _ _ _⟩
  obtain ⟨bw, hbw⟩ : ∃ b, bareW (S.r 19) md = b := ⟨_, rfl⟩
  obtain ⟨pw, hpw⟩ : ∃ b, properW va = b := ⟨_, rfl⟩
  have BA : Aside0 (∀ W, Calls Try.prog 24 #[.agg (wayC (S.r 19) kd md (bitW (S.r 1) 18) (bitW (S.r 1) 19))] W fun e w' => e = .returned (.bool bw) ∧ KpN W w') := ⟨fun W => by rw [← hbw]; exact bare_c _ _ _ _ _ W (hF 19)⟩
  have BR : Aside0 (∀ W, Calls Try.prog 25 #[.agg (wayC (S.r 19) kd md (bitW (S.r 1) 18) (bitW (S.r 1) 19))] W fun e w' => e = .returned (.bool bw) ∧ KpN W w') := ⟨fun W => by rw [← hbw]; exact rbare_k _ _ _ _ _ W (hF 19)⟩
  have PA : Aside0 (∀ W, Calls Try.prog 26 #[.int .u64 (va : Int)] W fun e w' => e = .returned (.bool pw) ∧ KpN W w') := ⟨fun W => by rw [← hpw]; exact (proper_c va W hva).mono fun e w' q => ⟨q.1, by obtain ⟨m, hm⟩ := q.2; rw [hm]; exact (Kp.refl _ _).drewN m⟩⟩
  have PR : Aside0 (∀ W, Calls Try.prog 27 #[.int .u64 (va : Int)] W fun e w' => e = .returned (.bool pw) ∧ KpN W w') := ⟨fun W => by rw [← hpw]; exact rproper_k va W hva⟩
  have GE : Aside0 (∀ W, Calls Try.prog 22 #[.int .u64 (S.r 1 : Int), .int .i64 11, .int .i64 2] W fun e w' => e = .returned (.int .u64 ((getW (S.r 1) 11 2 : Nat) : Int)) ∧ KpN W w') := ⟨fun W => getr_k2 _ _ _ W (hF 1)⟩
  have g4 : getW (S.r 1) 11 2 < 4 := get2_lt _ _
  have EC : Aside0 (IntKind.i64.wrap ((getW (S.r 1) 11 2 : Nat) : Int) = ((getW (S.r 1) 11 2 : Nat) : Int)) := ⟨by rw [IntKind.wrap_i64]; omega⟩
  clear hbw hpw hF hR
  rw [hS0] at h3 h17
  have HmR : Aside0 (R.m = 3) := ⟨em.trans h3⟩
  rw [h17] at J17
  obtain ⟨gm, hgm⟩ : ∃ g, getW (S.r 1) 11 2 = g := ⟨_, rfl⟩
  have hmg : (gm : Int) = md := by rw [← hmd, ofM, if_pos ⟨hk0, h3, h17⟩, hgm]
  rw [hgm] at GE EC g4
  rw [hmg] at GE EC
  have t0 : (kd == 0) = false := beq_eq_false_iff_ne.2 hk0
  have t1 : (kd != 0) = true := by rw [bne, t0]; rfl
  have eC := EC.out
  clear hS0 h3 h17 hgm hmg hmd hk0 em e1 hRel g4 EC
  go_enter Try.func7, Try.ntmps7
  go_wp2_with (first
    | ((with_reducible refine gate_dst (N := 3) rfl ?_); refine bx_ev rfl rfl (N := 3) rfl (startC m A xs.length c (l : Int)) rfl ?_; intro g hg_g w1 hb_g hk_g; have Hg_g := Aside0.mk hg_g; clear hg_g)
    | (go_at_call 8; refine (AW.out _).mono ?_; rintro e w2 ⟨rfl, hk2⟩; have hG2 := (Bk.mk hb_g).kp hk2 (fun h => h); have hC2 : Kd.C k92 w2 A xs.length xs := Kd.C_below hC ((hk_g.trans hk2).below (fun _ _ h => h.elim) (Nat.le_refl _)))
    | ((with_reducible refine gate_dst (N := 16) rfl ?_); refine wpList_load_row rfl 52 _ rfl g rfl _ (startC m A xs.length c (l : Int)) (0, 0) _ (hG2.blk) Try.underlying52 rfl infoStart ?_)
    | (go_at_call 20; refine (By.out _ hC2).mono ?_; rintro e w3 ⟨rfl, hk3⟩)
    | ((with_reducible refine gate_dst (N := 7) rfl ?_); refine al_ev rfl rfl (N := 7) rfl _ (zeroF _) ?_; intro f hg_f w4 hb_f hk_f; have Hg_f := Aside0.mk hg_f; clear hg_f)
    | ((with_reducible refine gate_dst (N := 8) rfl ?_); refine al_ev rfl rfl (N := 8) rfl _ (zeroR _) ?_; intro p hg_p w5 hb_p hk_p; have Hg_p := Aside0.mk hg_p; clear hg_p)
    | (((with_reducible refine gate_store (t := 54) (p := 7) rfl ?_); refine st_ev rfl rfl rfl f (S.cells) _ _ rfl rfl (((Bk.mk hb_f).kp hk_p (fun h => h)).blk) infoF rfl (VS.one _) ?_; intro w6 hs_w6 ks_w6); have hpf : p ≠ f := (by have := Hg_p.out; have := blk_lt hb_f; omega); have hP6 := (Bk.mk hb_p).kp ks_w6 hpf)
    | (((with_reducible refine gate_store (t := 57) (p := 8) rfl ?_); refine st_ev rfl rfl rfl p (R.cells) _ _ rfl rfl (hP6.blk) infoR rfl (VS.one _) ?_; intro w7 hs_w7 ks_w7); have hI : St FT w7 f S := (St.mk hs_w6).kp ks_w7 (fun e : f = p => hpf e.symm); have hP : Bk w7 p R.cells RT := Bk.mk hs_w7; have hfw : w.heap.size ≤ f := (by have := Hg_f.out; have := ((hk_g.trans hk2).trans hk3).size; omega); have hpw_ : w.heap.size ≤ p := (by have := Hg_p.out; have := (((hk_g.trans hk2).trans hk3).trans hk_f).size; omega); have K7 : KpN w w7 := ((((((hk_g.trans hk2).trans hk3).trans hk_f).trans hk_p).then ks_w6 fun i hi (e : i = f) => by omega).then ks_w7 fun i hi (e : i = p) => by omega); have c7 : w7.cell? ⟨p, 0, none⟩ = some (.int .i64 3) := (by rw [← HmR.out]; exact hP.c 0); clear hb_g hk_g Hg_g hk2 hG2 hC2 hk3 hb_f hk_f Hg_f hb_p hk_p Hg_p hs_w6 ks_w6 hP6 hs_w7 ks_w7)
    | ((with_reducible refine gate_dst (N := 33) rfl ?_); refine wpList_in (by rfl) (wp_load_row 57 _ rfl p rfl _ (R.cells) (0, 0) _ (hP.blk) Try.underlying57 rfl infoR ?_))
    | (go_at_call 21; refine (J17.out _).mono ?_; rintro e w8 ⟨rfl, hk8a⟩; have hI8 := hI.kp hk8a (fun h => h); have hP8 := hP.kp hk8a (fun h => h); have K8a := K7.trans hk8a; have c1f : w8.cell? ⟨f, 1, none⟩ = some (.int .u64 (S.r 1 : Int)) := hI8.c 1)
    | (go_at_call 22; refine (GE.out _).mono ?_; rintro e w9 ⟨rfl, hk9a⟩; have hI9 := hI8.kp hk9a (fun h => h); have hP9 := hP8.kp hk9a (fun h => h); have K9a := K8a.trans hk9a)
    | (go_at_call 23; refine (OF.out f _ hI9).mono ?_; rintro e W8 ⟨rfl, hk8⟩; have I8 := (hI9).kp hk8 (fun h => h); have P8 := (hP9).kp hk8 (fun h => h); have K8 := (K9a).trans hk8)
    | ((with_reducible refine gate_dst (N := 11) rfl ?_); refine al_ev rfl rfl (N := 11) rfl _ (zeroY _) ?_; intro x hg_x W8b hb_x hk_x; have Hg_x := Aside0.mk hg_x; clear hg_x)
    | (((with_reducible refine gate_store (t := 40) (p := 11) rfl ?_); refine st_ev rfl rfl rfl x (wayC (S.r 19) kd md (bitW (S.r 1) 18) (bitW (S.r 1) 19)) _ _ rfl rfl (hb_x) infoY rfl (wayC_one _ _ _ _ _) ?_; intro W9 hs_W9 ks_W9); have hfx : f ≠ x := (by have := Hg_x.out; have := I8.lt; omega); have hpx : p ≠ x := (by have := Hg_x.out; have := blk_lt P8.blk; omega); have hwx0 : Aside0 (w.heap.size ≤ x) := ⟨(by have := Hg_x.out; have := K8.size; omega)⟩; have I9 := (I8.kp hk_x (fun h => h)).kp ks_W9 hfx; have P9_ := (P8.kp hk_x (fun h => h)).kp ks_W9 hpx; have X9 : Aside0 (Bk W9 x (wayC (S.r 19) kd md (bitW (S.r 1) 18) (bitW (S.r 1) 19)) YT) := ⟨⟨hs_W9⟩⟩; have K9 : KpN w W9 := (K8.trans hk_x).then ks_W9 fun i hi (e : i = x) => by have := hwx0.out; omega))
  have H9 := Aside0.mk I9
  have P9 := Aside0.mk P9_
  have hwx : w.heap.size ≤ x := hwx0.out
  clear hwx0
  refine wp_region_slots 10 1 #[true, true, true, true, true, true, true, true, true, true, false] dw10 (rw10 W9 f S R kd md) (fun i => decide (9 ≤ i)) (by kernel_rfl) (by kernel_rfl) rfl ?_ ?_ ?_ (fun i v w w' _ => rw10_stab i v w w') ?_ ?_
  · intro i o hi ho
    rcases i with _ | _ | _ | _ | _ | _ | _ | _ | _ | _ | i
    all_goals first | (cases ho; rfl) | omega
  · intro i hi
    rcases i with _ | _ | _ | _ | _ | _ | _ | _ | _ | _ | i
    all_goals first | (show (_ : Nat) < 75; decide) | omega
  · intro i j hi hj h
    rcases i with _ | _ | _ | _ | _ | _ | _ | _ | _ | _ | i
    all_goals rcases j with _ | _ | _ | _ | _ | _ | _ | _ | _ | _ | j
    all_goals first | rfl | omega | (exact absurd h (by decide))
  · intro i o hi ho a' W hW hA hdep
    rcases i with _ | _ | _ | _ | _ | _ | _ | _ | _ | _ | i
    · cases ho
      have h0 : a'.tmps.getD 7 undef = .pointer (some ⟨f, 0, none⟩) := hA.old 7 (by decide)
      exact gS_fa (wanted_none rfl _) rfl _ _ h0 (fa54_19 f W) ⟨Kp.refl _ _, rfl, fun h => by cases h⟩
    · cases ho
      have h0 : a'.tmps.getD 42 undef = .pointer (some ⟨f, 19, none⟩) := hdep 0 (by decide) (by kernel_rfl)
      exact gS_load (wanted_none rfl _) rfl _ _ h0 (ld23w _ _ W ((H9.out.kp hW (fun h => h)).c 19)) ⟨Kp.refl _ _, rfl, fun h => by cases h⟩
    · cases ho
      have h0 : a'.tmps.getD 1 undef = .int .i64 kd := hA.old 1 (by decide)
      exact gS_mv (wanted_none rfl _) rfl _ h0 ⟨Kp.refl _ _, rfl, fun h => by cases h⟩
    · cases ho
      have h0 : a'.tmps.getD 10 undef = .int .i64 md := hA.old 10 (by decide)
      exact gS_mv (wanted_none rfl _) rfl _ h0 ⟨Kp.refl _ _, rfl, fun h => by cases h⟩
    · cases ho
      exact gS_ld (wanted_none rfl _) rfl p (hA.old 8 (by decide)) RT (R.cells) _ (P9.out.kp hW (fun h => h)).blk Try.underlying57 rfl infoR ⟨Kp.refl _ _, rfl, fun h => by cases h⟩
    · cases ho
      have h0 : a'.eval (.tmp 46) = .agg R.cells := hdep 4 (by decide) (by kernel_rfl)
      refine gS_ca (wanted_none rfl _) rfl Try.func21 (by kernel_rfl) rfl #[.agg R.cells, .int .i64 18] (by simp only [List.map_toArray, List.map_cons, List.map_nil]; rw [h0]; rfl) ?_
      exact (J18.out W).mono fun e w' h => ⟨_, h.1, h.2, rfl, fun h => by cases h⟩
    · cases ho
      exact gS_ld (wanted_none rfl _) rfl p (hA.old 8 (by decide)) RT (R.cells) _ (P9.out.kp hW (fun h => h)).blk Try.underlying57 rfl infoR ⟨Kp.refl _ _, rfl, fun h => by cases h⟩
    · cases ho
      have h0 : a'.eval (.tmp 48) = .agg R.cells := hdep 6 (by decide) (by kernel_rfl)
      refine gS_ca (wanted_none rfl _) rfl Try.func21 (by kernel_rfl) rfl #[.agg R.cells, .int .i64 19] (by simp only [List.map_toArray, List.map_cons, List.map_nil]; rw [h0]; rfl) ?_
      exact (J19.out W).mono fun e w' h => ⟨_, h.1, h.2, rfl, fun h => by cases h⟩
    · cases ho
      have h0 : a'.eval (.tmp 43) = .int .u64 (S.r 19 : Int) := hdep 1 (by decide) (by kernel_rfl)
      have h1 : a'.eval (.tmp 44) = .int .i64 kd := hdep 2 (by decide) (by kernel_rfl)
      have h2 : a'.eval (.tmp 45) = .int .i64 md := hdep 3 (by decide) (by kernel_rfl)
      have h3 : a'.eval (.tmp 47) = .bool (bitW (S.r 1) 18) := hdep 5 (by decide) (by kernel_rfl)
      have h4 : a'.eval (.tmp 49) = .bool (bitW (S.r 1) 19) := hdep 7 (by decide) (by kernel_rfl)
      exact gS_bd (wanted_none rfl _) rfl _ _ (by simp only [List.map_toArray, List.map_cons, List.map_nil]; rw [h0, h1, h2, h3, h4]) (bd25 _ _ _ _ _ W) ⟨Kp.refl _ _, rfl, fun h => by cases h⟩
    · cases ho
      exact gS_al (wanted_none rfl _) rfl zY (zeroY2 _) fun x hx w1 hb hk => ⟨hk, ⟨x, rfl, hb, by have := hW.size; omega⟩, fun _ => ⟨by show _ ≤ x; omega, blk_lt hb⟩⟩
    · omega
  intro v w10 hk10 hr _
  have v0 : v 0 = .pointer (some ⟨f, 19, none⟩) := hr 0 (by decide)
  have v1 : v 1 = .int .u64 (S.r 19 : Int) := hr 1 (by decide)
  have v2 : v 2 = .int .i64 kd := hr 2 (by decide)
  have v3 : v 3 = .int .i64 md := hr 3 (by decide)
  have v4 : v 4 = .agg R.cells := hr 4 (by decide)
  have v5 : v 5 = .bool (bitW (S.r 1) 18) := hr 5 (by decide)
  have v6 : v 6 = .agg R.cells := hr 6 (by decide)
  have v7 : v 7 = .bool (bitW (S.r 1) 19) := hr 7 (by decide)
  have v8 : v 8 = .agg (wayC (S.r 19) kd md (bitW (S.r 1) 18) (bitW (S.r 1) 19)) := hr 8 (by decide)
  obtain ⟨y, v9, hby, hgy⟩ := hr 9 (by decide)
  have hxy : x ≠ y := by have := blk_lt X9.out.blk; omega
  have hwy : w.heap.size ≤ y := Nat.le_trans K9.size hgy
  have hfy : f ≠ y := by have := H9.out.lt; omega
  clear hr hgy
  simp only [putN, dw10, v0, v1, v2, v3, v4, v5, v6, v7, v8, v9, Act.put, List.setIfInBounds_toArray, List.set_cons_zero, List.set_cons_succ]
  clear v0 v1 v2 v3 v4 v5 v6 v7 v8 v9
  refine any_1 (i := 10) (by kernel_rfl) rfl rfl (wp_st rfl rfl y (wayC (S.r 19) kd md (bitW (S.r 1) 18) (bitW (S.r 1) 19)) zY Y2 rfl rfl hby infoY2 rfl (wayC_one _ _ _ _ _) fun w11 h11 k11 => ?_)
  refine wpAny_done (by kernel_rfl) ?_ _
  have H10 := Aside0.mk ((H9.out.kp hk10 (fun h => h)).kp k11 hfy)
  have XB := Aside0.mk ((X9.out.kp hk10 (fun h => h)).kp k11 hxy)
  have YB : Aside0 (Bk w11 y (wayC (S.r 19) kd md (bitW (S.r 1) 18) (bitW (S.r 1) 19)) Y2) := ⟨⟨h11⟩⟩
  have K11 : KpN w w11 := (K9.trans hk10).then k11 fun i hi (e : i = y) => by omega
  clear hby h11 k11 hk10 H9 P9 X9 K9
  go_wp2
  refine wp_region_vals 24 1 #[true, true, true, true, true, true, true, true, true, true, true, true, true, true, true, true, true, true, true, true, true, true, true, true, false] dw11 (vw11 S kd md va y bw pw) (by kernel_rfl) (by kernel_rfl) rfl ?_ ?_ ?_ ?_ ?_
  · intro i o hi ho
    rcases i with _ | _ | _ | _ | _ | _ | _ | _ | _ | _ | _ | _ | _ | _ | _ | _ | _ | _ | _ | _ | _ | _ | _ | _ | i
    all_goals first | (cases ho; rfl) | omega
  · intro i hi
    rcases i with _ | _ | _ | _ | _ | _ | _ | _ | _ | _ | _ | _ | _ | _ | _ | _ | _ | _ | _ | _ | _ | _ | _ | _ | i
    all_goals first | (show (_ : Nat) < 75; decide) | omega
  · intro i j hi hj h
    rcases i with _ | _ | _ | _ | _ | _ | _ | _ | _ | _ | _ | _ | _ | _ | _ | _ | _ | _ | _ | _ | _ | _ | _ | _ | i
    all_goals rcases j with _ | _ | _ | _ | _ | _ | _ | _ | _ | _ | _ | _ | _ | _ | _ | _ | _ | _ | _ | _ | _ | _ | _ | _ | j
    all_goals first | rfl | omega | (exact absurd h (by decide))
  · intro i o hi ho a' W hW hA hdep
    rcases i with _ | _ | _ | _ | _ | _ | _ | _ | _ | _ | _ | _ | _ | _ | _ | _ | _ | _ | _ | _ | _ | _ | _ | _ | i
    · cases ho
      exact gS_ld (wanted_none rfl _) rfl x (hA.old 11 (by decide)) YT (wayC (S.r 19) kd md (bitW (S.r 1) 18) (bitW (S.r 1) 19)) _ (XB.out.kp hW (fun h => h)).blk Try.underlying40 rfl infoY ⟨Kp.refl _ _, rfl⟩
    · cases ho
      exact gS_ld (wanted_none rfl _) rfl y (hA.old 12 (by decide)) Y2 (wayC (S.r 19) kd md (bitW (S.r 1) 18) (bitW (S.r 1) 19)) _ (YB.out.kp hW (fun h => h)).blk Try.underlying25 rfl infoY2 ⟨Kp.refl _ _, rfl⟩
    · cases ho
      have h0 : a'.eval (.tmp 52) = .agg (wayC (S.r 19) kd md (bitW (S.r 1) 18) (bitW (S.r 1) 19)) := hdep 1 (by decide) (by kernel_rfl)
      refine gS_ca (wanted_none rfl _) rfl Try.func13 (by kernel_rfl) rfl #[.agg (wayC (S.r 19) kd md (bitW (S.r 1) 18) (bitW (S.r 1) 19))] (by simp only [List.map_toArray, List.map_cons, List.map_nil]; rw [h0]) ?_
      exact (WY.out W).mono fun e w' h => ⟨_, h.1, h.2, rfl⟩
    · cases ho
      have h0 : a'.tmps.getD 51 undef = .agg (wayC (S.r 19) kd md (bitW (S.r 1) 18) (bitW (S.r 1) 19)) := hdep 0 (by decide) (by kernel_rfl)
      have h1 : a'.tmps.getD 53 undef = .agg (wayC (S.r 19) kd md (bitW (S.r 1) 18) (bitW (S.r 1) 19)) := hdep 2 (by decide) (by kernel_rfl)
      exact gS_bin (wanted_none rfl _) rfl _ _ _ h0 h1 (eq40 _ _ _ _ _ W _ _) ⟨Kp.refl _ _, rfl⟩
    · cases ho
      have h0 : a'.tmps.getD 54 undef = .bool true := hdep 3 (by decide) (by kernel_rfl)
      exact gS_mv (wanted_none rfl _) rfl _ h0 ⟨Kp.refl _ _, rfl⟩
    · cases ho
      have hg : a'.tmps.getD 55 undef = .bool true := hdep 4 (by decide) (by kernel_rfl)
      exact gS_ld (wanted_y rfl rfl hg) rfl x (hA.old 11 (by decide)) YT (wayC (S.r 19) kd md (bitW (S.r 1) 18) (bitW (S.r 1) 19)) _ (XB.out.kp hW (fun h => h)).blk Try.underlying40 rfl infoY ⟨Kp.refl _ _, rfl⟩
    · cases ho
      have hg : a'.tmps.getD 55 undef = .bool true := hdep 4 (by decide) (by kernel_rfl)
      have h0 : a'.eval (.tmp 56) = .agg (wayC (S.r 19) kd md (bitW (S.r 1) 18) (bitW (S.r 1) 19)) := hdep 5 (by decide) (by kernel_rfl)
      refine gS_ca (wanted_y rfl rfl hg) rfl Try.func24 (by kernel_rfl) rfl #[.agg (wayC (S.r 19) kd md (bitW (S.r 1) 18) (bitW (S.r 1) 19))] (by simp only [List.map_toArray, List.map_cons, List.map_nil]; rw [h0]) ?_
      exact (BA.out W).mono fun e w' h => ⟨_, h.1, h.2, rfl⟩
    · cases ho
      have hg : a'.tmps.getD 55 undef = .bool true := hdep 4 (by decide) (by kernel_rfl)
      exact gS_ld (wanted_y rfl rfl hg) rfl y (hA.old 12 (by decide)) Y2 (wayC (S.r 19) kd md (bitW (S.r 1) 18) (bitW (S.r 1) 19)) _ (YB.out.kp hW (fun h => h)).blk Try.underlying25 rfl infoY2 ⟨Kp.refl _ _, rfl⟩
    · cases ho
      have hg : a'.tmps.getD 55 undef = .bool true := hdep 4 (by decide) (by kernel_rfl)
      have h0 : a'.eval (.tmp 58) = .agg (wayC (S.r 19) kd md (bitW (S.r 1) 18) (bitW (S.r 1) 19)) := hdep 7 (by decide) (by kernel_rfl)
      refine gS_ca (wanted_y rfl rfl hg) rfl Try.func25 (by kernel_rfl) rfl #[.agg (wayC (S.r 19) kd md (bitW (S.r 1) 18) (bitW (S.r 1) 19))] (by simp only [List.map_toArray, List.map_cons, List.map_nil]; rw [h0]) ?_
      exact (BR.out W).mono fun e w' h => ⟨_, h.1, h.2, rfl⟩
    · cases ho
      have hg : a'.tmps.getD 55 undef = .bool true := hdep 4 (by decide) (by kernel_rfl)
      have h0 : a'.tmps.getD 57 undef = .bool bw := hdep 6 (by decide) (by kernel_rfl)
      have h1 : a'.tmps.getD 59 undef = .bool bw := hdep 8 (by decide) (by kernel_rfl)
      exact gS_bin (wanted_y rfl rfl hg) rfl _ _ _ h0 h1 (eqb4 bw W _ _) ⟨Kp.refl _ _, rfl⟩
    · cases ho
      have h0 : a'.tmps.getD 55 undef = .bool true := hdep 4 (by decide) (by kernel_rfl)
      have h1 : a'.tmps.getD 60 undef = .bool true := hdep 9 (by decide) (by kernel_rfl)
      exact gS_pick (wanted_none rfl _) rfl true _ h0 h1 ⟨Kp.refl _ _, rfl⟩
    · cases ho
      have h0 : a'.tmps.getD 61 undef = .bool true := hdep 10 (by decide) (by kernel_rfl)
      exact gS_mv (wanted_none rfl _) rfl _ h0 ⟨Kp.refl _ _, rfl⟩
    · cases ho
      have hg : a'.tmps.getD 62 undef = .bool true := hdep 11 (by decide) (by kernel_rfl)
      have h0 : a'.tmps.getD 2 undef = .int .u64 (va : Int) := hA.old 2 (by decide)
      exact gS_mv (wanted_y rfl rfl hg) rfl _ h0 ⟨Kp.refl _ _, rfl⟩
    · cases ho
      have hg : a'.tmps.getD 62 undef = .bool true := hdep 11 (by decide) (by kernel_rfl)
      have h0 : a'.eval (.tmp 63) = .int .u64 (va : Int) := hdep 12 (by decide) (by kernel_rfl)
      refine gS_ca (wanted_y rfl rfl hg) rfl Try.func26 (by kernel_rfl) rfl #[.int .u64 (va : Int)] (by simp only [List.map_toArray, List.map_cons, List.map_nil]; rw [h0]) ?_
      exact (PA.out W).mono fun e w' h => ⟨_, h.1, h.2, rfl⟩
    · cases ho
      have hg : a'.tmps.getD 62 undef = .bool true := hdep 11 (by decide) (by kernel_rfl)
      have h0 : a'.tmps.getD 2 undef = .int .u64 (va : Int) := hA.old 2 (by decide)
      exact gS_mv (wanted_y rfl rfl hg) rfl _ h0 ⟨Kp.refl _ _, rfl⟩
    · cases ho
      have hg : a'.tmps.getD 62 undef = .bool true := hdep 11 (by decide) (by kernel_rfl)
      have h0 : a'.eval (.tmp 65) = .int .u64 (va : Int) := hdep 14 (by decide) (by kernel_rfl)
      refine gS_ca (wanted_y rfl rfl hg) rfl Try.func27 (by kernel_rfl) rfl #[.int .u64 (va : Int)] (by simp only [List.map_toArray, List.map_cons, List.map_nil]; rw [h0]) ?_
      exact (PR.out W).mono fun e w' h => ⟨_, h.1, h.2, rfl⟩
    · cases ho
      have hg : a'.tmps.getD 62 undef = .bool true := hdep 11 (by decide) (by kernel_rfl)
      have h0 : a'.tmps.getD 64 undef = .bool pw := hdep 13 (by decide) (by kernel_rfl)
      have h1 : a'.tmps.getD 66 undef = .bool pw := hdep 15 (by decide) (by kernel_rfl)
      exact gS_bin (wanted_y rfl rfl hg) rfl _ _ _ h0 h1 (eqb4 pw W _ _) ⟨Kp.refl _ _, rfl⟩
    · cases ho
      have h0 : a'.tmps.getD 62 undef = .bool true := hdep 11 (by decide) (by kernel_rfl)
      have h1 : a'.tmps.getD 67 undef = .bool true := hdep 16 (by decide) (by kernel_rfl)
      exact gS_pick (wanted_none rfl _) rfl true _ h0 h1 ⟨Kp.refl _ _, rfl⟩
    · cases ho
      have h0 : a'.tmps.getD 68 undef = .bool true := hdep 17 (by decide) (by kernel_rfl)
      exact gS_mv (wanted_none rfl _) rfl _ h0 ⟨Kp.refl _ _, rfl⟩
    · cases ho
      have hg : a'.tmps.getD 69 undef = .bool true := hdep 18 (by decide) (by kernel_rfl)
      have h0 : a'.eval (.tmp 7) = .pointer (some ⟨f, 0, none⟩) := hA.old 7 (by decide)
      refine gS_ca (wanted_y rfl rfl hg) rfl Try.func28 (by kernel_rfl) rfl #[.pointer (some ⟨f, 0, none⟩), .int .i64 18] (by simp only [List.map_toArray, List.map_cons, List.map_nil]; rw [h0]; rfl) ?_
      exact (IS.out f W (H10.out.kp hW (fun h => h))).mono fun e w' h => ⟨_, h.1, h.2, rfl⟩
    · cases ho
      have hg : a'.tmps.getD 69 undef = .bool true := hdep 18 (by decide) (by kernel_rfl)
      have h0 : a'.tmps.getD 12 undef = .pointer (some ⟨y, 0, none⟩) := hA.old 12 (by decide)
      exact gS_fa (wanted_y rfl rfl hg) rfl _ _ h0 (fa25_3 y W) ⟨Kp.refl _ _, rfl⟩
    · cases ho
      have hg : a'.tmps.getD 69 undef = .bool true := hdep 18 (by decide) (by kernel_rfl)
      have h0 : a'.tmps.getD 71 undef = .pointer (some ⟨y, 3, none⟩) := hdep 20 (by decide) (by kernel_rfl)
      exact gS_load (wanted_y rfl rfl hg) rfl _ _ h0 (ld4 _ _ W ((YB.out.kp hW (fun h => h)).c 3)) ⟨Kp.refl _ _, rfl⟩
    · cases ho
      have hg : a'.tmps.getD 69 undef = .bool true := hdep 18 (by decide) (by kernel_rfl)
      have h0 : a'.tmps.getD 70 undef = .bool (bitW (S.r 1) 18) := hdep 19 (by decide) (by kernel_rfl)
      have h1 : a'.tmps.getD 72 undef = .bool (bitW (S.r 1) 18) := hdep 21 (by decide) (by kernel_rfl)
      exact gS_bin (wanted_y rfl rfl hg) rfl _ _ _ h0 h1 (eqb4 (bitW (S.r 1) 18) W _ _) ⟨Kp.refl _ _, rfl⟩
    · cases ho
      have h0 : a'.tmps.getD 69 undef = .bool true := hdep 18 (by decide) (by kernel_rfl)
      have h1 : a'.tmps.getD 73 undef = .bool true := hdep 22 (by decide) (by kernel_rfl)
      exact gS_pick (wanted_none rfl _) rfl true _ h0 h1 ⟨Kp.refl _ _, rfl⟩
    · omega
  intro w12 hk12
  have K12 := K11.trans hk12
  simp only [putN, dw11, vw11, Act.put, List.setIfInBounds_toArray, List.set_cons_zero, List.set_cons_succ]
  refine any_1 (i := 24) (by kernel_rfl) rfl rfl (wp_asw rfl 6 rfl (.bool true) rfl ?_)
  refine wpAny_done (by kernel_rfl) ?_ _
  simp only [Act.put, List.setIfInBounds_toArray, List.set_cons_zero, List.set_cons_succ]
  go_wp2
  go_ret
  exact ⟨rfl, K12.below (fun _ _ h => h.elim) (Nat.le_refl _)⟩
theorem ways_yes (m : Int) (A : Option Addr) (c : Nat) (l : Nat) (xs : List WR) (kd : Int) (va : Nat) (w : World) (hC : Kd.C k92 w A xs.length xs) (hx : wrOk xs) (hl : U l) (hb : bgOk m xs.length) (hva : U va) :
    Calls Try.prog 7 #[.agg (startC m A xs.length c (l : Int)), .int .i64 kd, .int .u64 (va : Int)] w fun e w' => e = .returned (.bool true) ∧ Below w.heap.size w w' := by
  by_cases hk0 : kd = 0
  · exact ways_fetch m A c l xs kd va w hC hx hl hva hb hk0
  by_cases h3 : (bgF m xs l).m = 3
  · cases h17 : bitW ((bgF m xs l).r 1) 17
    · exact ways_plain m A c l xs kd va w hC hx hl hva hb hk0 h3 h17
    · exact ways_prev m A c l xs kd va w hC hx hl hva hb hk0 h3 h17
  · exact ways_other m A c l xs kd va w hC hx hl hva hb hk0 h3
end Go.Proofs.Ytlhdildnekllhaa.H
