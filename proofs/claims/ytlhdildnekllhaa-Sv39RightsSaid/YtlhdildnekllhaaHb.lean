/- Words for proofs by hand: numbers of 64 bits, a row of 23 cells, what a call leaves as it was. -/
import Derived.Test.YtlhdildnekllhaaS0
import Derived.RegionTactic
import Derived.Laws.Tables
import Derived.Deep.MidRow
import Derived.Laws.Rows
namespace Go.Proofs.Ytlhdildnekllhaa.H
open Go.RowKit Go.Proofs.YtlhdildnekllhaaW.PrintWords Go.Proofs.YtlhdildnekllhaaW.PrintLast Go.Proofs.Ytlhdildnekllhaa.PAl Go.Proofs.Ytlhdildnekllhaa.Pure Go.Proofs.Ytlhdildnekllhaa.Vw
set_option linter.unusedVariables false
set_option linter.unusedSimpArgs false

/-- A number of 64 bits (a fact that the walk leaves alone). -/
structure U (x : Nat) : Prop where
  lt : x < 18446744073709551616

/-- What a call leaves as it was: all but the blocks of S. -/
structure Kp (w w' : World) (S : Nat → Prop) : Prop where
  os : w'.os = w.os
  tape : w'.tape = w.tape
  output : w'.output = w.output
  size : w.heap.size ≤ w'.heap.size
  block : ∀ k, k < w.heap.size → ¬ S k → w'.heap[k]? = w.heap[k]?
theorem Kp.refl (w : World) (S : Nat → Prop) : Kp w w S := ⟨rfl, rfl, rfl, Nat.le_refl _, fun _ _ _ => rfl⟩
theorem Kp.trans {a b c : World} {S : Nat → Prop} (h : Kp a b S) (k : Kp b c S) : Kp a c S :=
  ⟨k.os.trans h.os, k.tape.trans h.tape, k.output.trans h.output, Nat.le_trans h.size k.size, fun i hi hS => (k.block i (Nat.lt_of_lt_of_le hi h.size) hS).trans (h.block i hi hS)⟩
theorem Kp.then {a b c : World} {S S' : Nat → Prop} (h : Kp a b S) (k : Kp b c S') (hS : ∀ i, i < a.heap.size → S' i → S i) : Kp a c S :=
  ⟨k.os.trans h.os, k.tape.trans h.tape, k.output.trans h.output, Nat.le_trans h.size k.size, fun i hi hn => (k.block i (Nat.lt_of_lt_of_le hi h.size) fun q => hn (hS i hi q)).trans (h.block i hi hn)⟩
theorem Kp.mono {a b : World} {S T : Nat → Prop} (h : Kp a b S) (hST : ∀ k, k < a.heap.size → S k → T k) : Kp a b T :=
  ⟨h.os, h.tape, h.output, h.size, fun i hi hT => h.block i hi fun hS => hT (hST i hi hS)⟩
theorem Kp.drewN {a b : World} {S : Nat → Prop} (h : Kp a b S) (n : Nat) : Kp a (b.drewN n) S := ⟨h.os, h.tape, h.output, h.size, h.block⟩
theorem Kp.drew {a b : World} {S : Nat → Prop} (h : Kp a b S) : Kp a b.drew S := ⟨h.os, h.tape, h.output, h.size, h.block⟩
theorem Kp.alloc {a b : World} {S : Nat → Prop} (h : Kp a b S) (o : Obj) : Kp a (b.alloc o) S :=
  h.trans ⟨rfl, rfl, rfl, by simp, fun k hk _ => Below.heap_alloc _ _ _ hk⟩
theorem Kp.setCell {a b : World} {S : Nat → Prop} (h : Kp a b S) {p : Addr} (hp : S p.block ∨ a.heap.size ≤ p.block) (u : Value) : Kp a (b.setCell p u) S :=
  ⟨h.os, h.tape, h.output, by simpa [World.setCell] using h.size, fun k hk hS => (Below.heap_setCell _ _ _ _ (fun e => by subst e; rcases hp with hp | hp; exact hS hp; omega)).trans (h.block k hk hS)⟩
theorem Kp.below {a b : World} {S : Nat → Prop} (h : Kp a b S) {B : Nat} (hB : ∀ k, k < a.heap.size → S k → B ≤ k) (hs : B ≤ a.heap.size) : Below B a b :=
  ⟨h.os, h.tape, h.output, h.size, fun k hk => h.block k (by omega) fun hS => by have := hB k (by omega) hS; omega⟩
theorem Kp.of_below {a b : World} (h : Below a.heap.size a b) (S : Nat → Prop) : Kp a b S := ⟨h.os, h.tape, h.output, h.size, fun k hk _ => h.block k hk⟩

/-- A mode and 22 words. -/
structure VS where
  m : Int
  r : Nat → Nat
def VS.ok (s : VS) : Prop := ∀ i, U (s.r i)
def VS.set (s : VS) (j : Nat) (v : Nat) : VS := ⟨s.m, fun i => if i = j then v else s.r i⟩
def VS.mode (s : VS) (m : Int) : VS := ⟨m, s.r⟩
theorem VS.set_ok {s : VS} (h : s.ok) (j : Nat) {v : Nat} (hv : U v) : (s.set j v).ok := by
  intro i; show U (if i = j then v else s.r i); split; exact hv; exact h i
theorem VS.mode_ok {s : VS} (h : s.ok) (m : Int) : (s.mode m).ok := h
theorem VS.ext {a b : VS} (hm : a.m = b.m) (hr : a.r = b.r) : a = b := by cases a; cases b; simp_all
/-- Its cells. -/
def VS.cells (s : VS) : Array Value := #[.int .i64 s.m, .int .u64 (s.r 1 : Int), .int .u64 (s.r 2 : Int), .int .u64 (s.r 3 : Int), .int .u64 (s.r 4 : Int), .int .u64 (s.r 5 : Int), .int .u64 (s.r 6 : Int), .int .u64 (s.r 7 : Int), .int .u64 (s.r 8 : Int), .int .u64 (s.r 9 : Int), .int .u64 (s.r 10 : Int), .int .u64 (s.r 11 : Int), .int .u64 (s.r 12 : Int), .int .u64 (s.r 13 : Int), .int .u64 (s.r 14 : Int), .int .u64 (s.r 15 : Int), .int .u64 (s.r 16 : Int), .int .u64 (s.r 17 : Int), .int .u64 (s.r 18 : Int), .int .u64 (s.r 19 : Int), .int .u64 (s.r 20 : Int), .int .u64 (s.r 21 : Int), .int .u64 (s.r 22 : Int)]
theorem VS.size (s : VS) : s.cells.size = 23 := rfl
theorem VS.at0 (s : VS) : s.cells[0]? = some (.int .i64 s.m) := rfl
theorem VS.at_ (s : VS) (j : Nat) (h1 : 1 ≤ j) (h2 : j ≤ 22) : s.cells[j]? = some (.int .u64 (s.r j : Int)) := by
  rcases j with _ | _ | _ | _ | _ | _ | _ | _ | _ | _ | _ | _ | _ | _ | _ | _ | _ | _ | _ | _ | _ | _ | _ | j
  · omega
  all_goals first | rfl | omega
theorem VS.put0 (s : VS) (m : Int) : s.cells.setIfInBounds 0 (.int .i64 m) = (s.mode m).cells := rfl
theorem VS.put_ (s : VS) (j : Nat) (h1 : 1 ≤ j) (h2 : j ≤ 22) (v : Nat) : s.cells.setIfInBounds j (.int .u64 (v : Int)) = (s.set j v).cells := by
  rcases j with _ | _ | _ | _ | _ | _ | _ | _ | _ | _ | _ | _ | _ | _ | _ | _ | _ | _ | _ | _ | _ | _ | _ | j
  · omega
  all_goals first | rfl | omega
/-- Block g holds it. -/
structure St (T : TypeId) (w : World) (g : Nat) (s : VS) : Prop where
  blk : w.heap[g]? = some (.cells s.cells T (0, 0))
theorem St.c0 {T w g s} (h : St T w g s) : w.cell? ⟨g, 0, none⟩ = some (.int .i64 s.m) := (blk_cell h.blk 0).trans (VS.at0 s)
theorem St.c {T w g s} (h : St T w g s) (j : Nat) (h1 : 1 ≤ j := by decide) (h2 : j ≤ 22 := by decide) : w.cell? ⟨g, j, none⟩ = some (.int .u64 (s.r j : Int)) := (blk_cell h.blk j).trans (VS.at_ s j h1 h2)
theorem St.f {T w g s} (h : St T w g s) (j : Nat) : w.frozen? ⟨g, j, none⟩ = false := blk_frozen h.blk j
theorem St.drewN {T w g s} (h : St T w g s) (n : Nat) : St T (w.drewN n) g s := ⟨h.blk⟩
theorem St.drew {T w g s} (h : St T w g s) : St T w.drew g s := ⟨h.blk⟩
theorem St.lt {T w g s} (h : St T w g s) : g < w.heap.size := blk_lt h.blk
theorem St.alloc {T w g s} (h : St T w g s) (o : Obj) : St T (w.alloc o) g s := ⟨blk_alloc h.blk o⟩
theorem St.set0 {T w g s} (h : St T w g s) (m : Int) : St T (w.setCell ⟨g, 0, none⟩ (.int .i64 m)) g (s.mode m) := ⟨by rw [← VS.put0]; exact blk_set h.blk 0 _⟩
theorem St.set {T w g s} (h : St T w g s) (j : Nat) (v : Nat) (h1 : 1 ≤ j := by decide) (h2 : j ≤ 22 := by decide) : St T (w.setCell ⟨g, j, none⟩ (.int .u64 (v : Int))) g (s.set j v) := ⟨by rw [← VS.put_ s j h1 h2]; exact blk_set h.blk j _⟩
theorem St.far {T w g s} (h : St T w g s) {p : Addr} (hp : g ≠ p.block) (u : Value) : St T (w.setCell p u) g s := ⟨(Below.heap_setCell _ _ _ _ hp).trans h.blk⟩
theorem St.kp {T w g s w'} {S : Nat → Prop} (h : St T w g s) (k : Kp w w' S) (hS : ¬ S g) : St T w' g s := ⟨(k.block g h.lt hS).trans h.blk⟩
theorem St.new (T : TypeId) (w : World) (s : VS) : St T (w.alloc (.cells s.cells T)) w.heap.size s := ⟨by simpa using heap_alloc_new w _⟩

/-! whole structs: made, stored -/
section
variable {P : Program} {ops : Array Oper} {rest : List Oper} {o : Oper} {a : Act} {Q : Exit → Act → World → Prop}
theorem setRow_blk {W : World} {g : Nat} {old cs : Array Value} {t : TypeId} (hg : W.heap[g]? = some (.cells old t (0, 0))) : (W.setRow g cs).heap[g]? = some (.cells cs t (0, 0)) := by
  simp [World.setRow, Array.getElem?_modify, hg]
theorem Kp.setRow {W w : World} {S : Nat → Prop} (h : Kp W w S) (g : Nat) (cs : Array Value) (hg : S g ∨ W.heap.size ≤ g) : Kp W (w.setRow g cs) S :=
  ⟨h.os, h.tape, h.output, by simpa using h.size, fun k hk hS => by
    have hne : g ≠ k := by rintro rfl; rcases hg with hg | hg; exact hS hg; omega
    rw [← h.block k hk hS]; simp [World.setRow, Array.getElem?_modify, hne]⟩
theorem st_ev {W : World} (hgd : o.guard = none) {ty : TypeId} {x y : Operand} (ho : o.op = .store ty x y) (hN : o.dst = none) (g : Nat) (cs old : Array Value) (t : TypeId)
    (hx : a.eval x = .pointer (some ⟨g, 0, none⟩)) (hy : a.eval y = .agg cs) (hg : W.heap[g]? = some (.cells old t (0, 0))) (hi : (P.info? ty).map (·.size) = some cs.size)
    (hold : old.size = cs.size) (h1 : cs.all (·.oneCell') = true)
    (h : ∀ w1, w1.heap[g]? = some (.cells cs t (0, 0)) → Kp W w1 (fun i => i = g) → wpList P ops Q rest a w1) : wpList P ops Q (o :: rest) a W :=
  wpList_plain hgd fun K hK => wp_store_row ty x y ho g cs hx hy t old hg hi hold h1 (by rw [hN]; exact hK _ _ (h _ (setRow_blk hg) ((Kp.refl _ _).setRow g cs (.inl rfl))))
theorem bx_ev {W : World} (hgd : o.guard = none) {t : TypeId} {x : Operand} (ho : o.op = .box t x) {N : Tmp} (_hd : o.dst = some N) (cs : Array Value) (hx : a.eval x = .agg cs)
    (h : ∀ g, g = W.heap.size → ∀ w1, w1.heap[g]? = some (.cells cs t (0, 0)) → Kp W w1 (fun _ => False) → wpList P ops Q rest (a.put o.dst (.pointer (some ⟨g, 0, none⟩))) w1) : wpList P ops Q (o :: rest) a W := by
  refine wpList_plain hgd fun K hK => ?_
  have hrun : (execOp a.eval o).run P W = .ok (.value (.pointer (some ⟨W.heap.size, 0, none⟩))) (W.alloc (.cells cs t (0, 0))) := by
    unfold execOp
    simp only [ho, hx]
    rfl
  unfold Oper.wp
  rw [hrun]
  exact hK _ _ (h _ rfl _ (by simpa using heap_alloc_new W _) ((Kp.refl _ _).alloc _))
theorem al_ev {W : World} (hgd : o.guard = none) {t : TypeId} (ho : o.op = .alloc t) {N : Tmp} (_hd : o.dst = some N) (cs : Array Value) 
    (hz : (zeroValue t).run P W = .ok (.agg cs) W)
    (h : ∀ g, g = W.heap.size → ∀ w1, w1.heap[g]? = some (.cells cs t (0, 0)) → Kp W w1 (fun _ => False) → wpList P ops Q rest (a.put o.dst (.pointer (some ⟨g, 0, none⟩))) w1) : wpList P ops Q (o :: rest) a W := by
  refine wpList_plain hgd fun K hK => ?_
  have hrun : (execOp a.eval o).run P W = .ok (.value (.pointer (some ⟨W.heap.size, 0, none⟩))) (W.alloc (.cells cs t (0, 0))) := by
    unfold execOp
    simp only [ho, Instr.alloc, Sem.run_bind, hz, Result.andThen_ok]
    rfl
  unfold Oper.wp
  rw [hrun]
  exact hK _ _ (h _ rfl _ (by simpa using heap_alloc_new W _) ((Kp.refl _ _).alloc _))
theorem VS.one (s : VS) : s.cells.all (·.oneCell') = true := by unfold VS.cells; simp [Value.oneCell']
end
/-! the leaves -/
theorem get_c (x : Nat) (a n : Int) (w : World) (hx : U x) : Calls Try.prog 32 #[.int .u64 (x : Int), .int .i64 a, .int .i64 n] w fun e w' => e = .returned (.int .u64 ((getW x a n : Nat) : Int)) ∧ ∃ m, w' = w.drewN m :=
  (word_Get.calls _ _ _ _ w (word_Get_is x a n hx.lt)).mono fun e w' h => ⟨h.1, h.2.out⟩
def bitW (x : Nat) (a : Int) : Bool := decide (0 ≤ a ∧ a ≤ 63) && x.testBit a.toNat
theorem bit_c (x : Nat) (a : Int) (w : World) (hx : U x) : Calls Try.prog 51 #[.int .u64 (x : Int), .int .i64 a] w fun e w' => e = .returned (.bool (bitW x a)) ∧ ∃ m, w' = w.drewN m :=
  (word_Bit.calls _ _ _ w (word_Bit_is x a hx.lt)).mono fun e w' h => ⟨h.1, h.2.out⟩
theorem U.get {x : Nat} (h : U x) (a n : Int) : U (getW x a n) := ⟨getW_lt h.lt a n⟩
theorem U.put {x : Nat} (h : U x) (a n : Int) (v : Nat) : U (putW x a n v) := ⟨putW_lt h.lt a n v⟩
theorem U.and {x y : Nat} (h : U x) : U (x &&& y) := ⟨and_lt h.lt⟩
theorem U.or {x y : Nat} (h : U x) (k : U y) : U (x ||| y) := ⟨or_lt h.lt k.lt⟩
/-- x without the bits of y -/
def minus (x y : Nat) : Nat := x &&& (18446744073709551615 - y)
theorem U.minus {x y : Nat} (h : U x) : U (minus x y) := ⟨and_lt h.lt⟩
theorem and_c {x y : Nat} (h : U x) (k : U y) : Go.bits .and .u64 (x : Int) (y : Int) = ((x &&& y : Nat) : Int) := and_nat x y h.lt k.lt
theorem or_c {x y : Nat} (h : U x) (k : U y) : Go.bits .or .u64 (x : Int) (y : Int) = ((x ||| y : Nat) : Int) := or_nat x y h.lt k.lt
theorem minus_c {x y : Nat} (h : U x) (k : U y) : Go.bits .andNot .u64 (x : Int) (y : Int) = ((minus x y : Nat) : Int) := andNot_nat x y h.lt k.lt
theorem U.num {n : Nat} (h : n < 18446744073709551616 := by decide) : U n := ⟨h⟩
end Go.Proofs.Ytlhdildnekllhaa.H
