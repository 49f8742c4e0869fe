/- Words for proofs by hand: what a call leaves as it was; blocks; whole structs made and stored. -/
import Derived.Test.YtnompdckpenfgaaPAlx0
import Derived.RegionTactic
import Derived.Laws.Tables
import Derived.Deep.MidRow
import Derived.Laws.Rows
import Derived.StillTailTactics
namespace Go.Proofs.Ytnompdckpenfgaa.H
open Go.RowKit Go.Proofs.YtnompdckpenfgaaW.PrintWords Go.Proofs.YtnompdckpenfgaaW.PrintLast Go.Proofs.Ytnompdckpenfgaa.PAl
set_option linter.unusedVariables false
set_option linter.unusedSimpArgs false
/-- A number of 64 bits (a fact that the walk leaves alone). -/
structure U (x : Nat) : Prop where
  lt : x < 18446744073709551616

/-- What a call leaves as it was: all but the blocks of S. -/
structure Kp (w w' : World) (S : Nat → Prop) : Prop where
  os : w'.os = w.os
  tape : w'.tape = w.tape
  output : w'.output = w.output
  size : w.heap.size ≤ w'.heap.size
  block : ∀ k, k < w.heap.size → ¬ S k → w'.heap[k]? = w.heap[k]?
theorem Kp.refl (w : World) (S : Nat → Prop) : Kp w w S := ⟨rfl, rfl, rfl, Nat.le_refl _, fun _ _ _ => rfl⟩
theorem Kp.trans {a b c : World} {S : Nat → Prop} (h : Kp a b S) (k : Kp b c S) : Kp a c S :=
  ⟨k.os.trans h.os, k.tape.trans h.tape, k.output.trans h.output, Nat.le_trans h.size k.size, fun i hi hS => (k.block i (Nat.lt_of_lt_of_le hi h.size) hS).trans (h.block i hi hS)⟩
theorem Kp.then {a b c : World} {S S' : Nat → Prop} (h : Kp a b S) (k : Kp b c S') (hS : ∀ i, i < a.heap.size → S' i → S i) : Kp a c S :=
  ⟨k.os.trans h.os, k.tape.trans h.tape, k.output.trans h.output, Nat.le_trans h.size k.size, fun i hi hn => (k.block i (Nat.lt_of_lt_of_le hi h.size) fun q => hn (hS i hi q)).trans (h.block i hi hn)⟩
theorem Kp.mono {a b : World} {S T : Nat → Prop} (h : Kp a b S) (hST : ∀ k, k < a.heap.size → S k → T k) : Kp a b T :=
  ⟨h.os, h.tape, h.output, h.size, fun i hi hT => h.block i hi fun hS => hT (hST i hi hS)⟩
theorem Kp.drewN {a b : World} {S : Nat → Prop} (h : Kp a b S) (n : Nat) : Kp a (b.drewN n) S := ⟨h.os, h.tape, h.output, h.size, h.block⟩
theorem Kp.drew {a b : World} {S : Nat → Prop} (h : Kp a b S) : Kp a b.drew S := ⟨h.os, h.tape, h.output, h.size, h.block⟩
theorem Kp.alloc {a b : World} {S : Nat → Prop} (h : Kp a b S) (o : Obj) : Kp a (b.alloc o) S :=
  h.trans ⟨rfl, rfl, rfl, by simp, fun k hk _ => Below.heap_alloc _ _ _ hk⟩
theorem Kp.setCell {a b : World} {S : Nat → Prop} (h : Kp a b S) {p : Addr} (hp : S p.block ∨ a.heap.size ≤ p.block) (u : Value) : Kp a (b.setCell p u) S :=
  ⟨h.os, h.tape, h.output, by simpa [World.setCell] using h.size, fun k hk hS => (Below.heap_setCell _ _ _ _ (fun e => by subst e; rcases hp with hp | hp; exact hS hp; omega)).trans (h.block k hk hS)⟩
theorem Kp.below {a b : World} {S : Nat → Prop} (h : Kp a b S) {B : Nat} (hB : ∀ k, k < a.heap.size → S k → B ≤ k) (hs : B ≤ a.heap.size) : Below B a b :=
  ⟨h.os, h.tape, h.output, h.size, fun k hk => h.block k (by omega) fun hS => by have := hB k (by omega) hS; omega⟩
theorem Kp.of_below {a b : World} (h : Below a.heap.size a b) (S : Nat → Prop) : Kp a b S := ⟨h.os, h.tape, h.output, h.size, fun k hk _ => h.block k hk⟩

abbrev KpN (w w' : World) : Prop := Kp w w' (fun _ => False)
/-- Block g holds these cells. -/
structure Bk (w : World) (g : Nat) (cs : Array Value) (T : TypeId) : Prop where
  blk : w.heap[g]? = some (.cells cs T (0, 0))
theorem Bk.kp {w w' : World} {g cs T} {S : Nat → Prop} (h : Bk w g cs T) (k : Kp w w' S) (hS : ¬ S g) : Bk w' g cs T := ⟨(k.block g (blk_lt h.blk) hS).trans h.blk⟩
theorem Bk.c {w : World} {g cs T} (h : Bk w g cs T) (j : Nat) : w.cell? ⟨g, j, none⟩ = cs[j]? := blk_cell h.blk j
theorem Bk.drew {w : World} {g cs T} (h : Bk w g cs T) : Bk w.drew g cs T := ⟨h.blk⟩
/-! whole structs: made, stored -/
section
variable {P : Program} {ops : Array Oper} {rest : List Oper} {o : Oper} {a : Act} {Q : Exit → Act → World → Prop}
theorem setRow_blk {W : World} {g : Nat} {old cs : Array Value} {t : TypeId} (hg : W.heap[g]? = some (.cells old t (0, 0))) : (W.setRow g cs).heap[g]? = some (.cells cs t (0, 0)) := by
  simp [World.setRow, Array.getElem?_modify, hg]
theorem Kp.setRow {W w : World} {S : Nat → Prop} (h : Kp W w S) (g : Nat) (cs : Array Value) (hg : S g ∨ W.heap.size ≤ g) : Kp W (w.setRow g cs) S :=
  ⟨h.os, h.tape, h.output, by simpa using h.size, fun k hk hS => by
    have hne : g ≠ k := by rintro rfl; rcases hg with hg | hg; exact hS hg; omega
    rw [← h.block k hk hS]; simp [World.setRow, Array.getElem?_modify, hne]⟩
theorem st_ev {W : World} (hgd : o.guard = none) {ty : TypeId} {x y : Operand} (ho : o.op = .store ty x y) (hN : o.dst = none) (g : Nat) (cs old : Array Value) (t : TypeId)
    (hx : a.eval x = .pointer (some ⟨g, 0, none⟩)) (hy : a.eval y = .agg cs) (hg : W.heap[g]? = some (.cells old t (0, 0))) (hi : (P.info? ty).map (·.size) = some cs.size)
    (hold : old.size = cs.size) (h1 : cs.all (·.oneCell') = true)
    (h : ∀ w1, w1.heap[g]? = some (.cells cs t (0, 0)) → Kp W w1 (fun i => i = g) → wpList P ops Q rest a w1) : wpList P ops Q (o :: rest) a W :=
  wpList_plain hgd fun K hK => wp_store_row ty x y ho g cs hx hy t old hg hi hold h1 (by rw [hN]; exact hK _ _ (h _ (setRow_blk hg) ((Kp.refl _ _).setRow g cs (.inl rfl))))
theorem bx_ev {W : World} (hgd : o.guard = none) {t : TypeId} {x : Operand} (ho : o.op = .box t x) {N : Tmp} (_hd : o.dst = some N) (cs : Array Value) (hx : a.eval x = .agg cs)
    (h : ∀ g, g = W.heap.size → ∀ w1, w1.heap[g]? = some (.cells cs t (0, 0)) → Kp W w1 (fun _ => False) → wpList P ops Q rest (a.put o.dst (.pointer (some ⟨g, 0, none⟩))) w1) : wpList P ops Q (o :: rest) a W := by
  refine wpList_plain hgd fun K hK => ?_
  have hrun : (execOp a.eval o).run P W = .ok (.value (.pointer (some ⟨W.heap.size, 0, none⟩))) (W.alloc (.cells cs t (0, 0))) := by
    unfold execOp
    simp only [ho, hx]
    rfl
  unfold Oper.wp
  rw [hrun]
  exact hK _ _ (h _ rfl _ (by simpa using heap_alloc_new W _) ((Kp.refl _ _).alloc _))
theorem al_ev {W : World} (hgd : o.guard = none) {t : TypeId} (ho : o.op = .alloc t) {N : Tmp} (_hd : o.dst = some N) (cs : Array Value) 
    (hz : (zeroValue t).run P W = .ok (.agg cs) W)
    (h : ∀ g, g = W.heap.size → ∀ w1, w1.heap[g]? = some (.cells cs t (0, 0)) → Kp W w1 (fun _ => False) → wpList P ops Q rest (a.put o.dst (.pointer (some ⟨g, 0, none⟩))) w1) : wpList P ops Q (o :: rest) a W := by
  refine wpList_plain hgd fun K hK => ?_
  have hrun : (execOp a.eval o).run P W = .ok (.value (.pointer (some ⟨W.heap.size, 0, none⟩))) (W.alloc (.cells cs t (0, 0))) := by
    unfold execOp
    simp only [ho, Instr.alloc, Sem.run_bind, hz, Result.andThen_ok]
    rfl
  unfold Oper.wp
  rw [hrun]
  exact hK _ _ (h _ rfl _ (by simpa using heap_alloc_new W _) ((Kp.refl _ _).alloc _))
end
end Go.Proofs.Ytnompdckpenfgaa.H
