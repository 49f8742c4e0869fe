/- Addresses and memory: tables, rows, maps, words, awake machines. -/
import Derived.Test.YtlhdildnekllhaaPAlx0
import Derived.RegionTactic
import Derived.Laws.Tables
import Derived.Deep.MidRow
import Derived.Laws.Rows
import Derived.StillTailTactics
import Derived.Test.YtlhdildnekllhaaS0
import Derived.StillTail
import Derived.Lib.QuietBelow
import Derived.Maps.Own
import Derived.Maps.OwnOps
import Derived.Maps.Views
import Derived.Carry
/- Words for proofs by hand: what a call leaves as it was; blocks; whole structs made and stored. -/
namespace Go.Proofs.Ytlhdildnekllhaa.H
open Go.RowKit Go.Proofs.YtlhdildnekllhaaW.PrintWords Go.Proofs.YtlhdildnekllhaaW.PrintLast Go.Proofs.Ytlhdildnekllhaa.PAl
set_option linter.unusedVariables false
set_option linter.unusedSimpArgs false
/-- A number of 64 bits (a fact that the walk leaves alone). -/
structure U (x : Nat) : Prop where
  lt : x < 18446744073709551616

/-- What a call leaves as it was: all but the blocks of S. -/
structure Kp (w w' : World) (S : Nat → Prop) : Prop where
  os : w'.os = w.os
  tape : w'.tape = w.tape
  output : w'.output = w.output
  size : w.heap.size ≤ w'.heap.size
  block : ∀ k, k < w.heap.size → ¬ S k → w'.heap[k]? = w.heap[k]?
theorem Kp.refl (w : World) (S : Nat → Prop) : Kp w w S := ⟨rfl, rfl, rfl, Nat.le_refl _, fun _ _ _ => rfl⟩
theorem Kp.trans {a b c : World} {S : Nat → Prop} (h : Kp a b S) (k : Kp b c S) : Kp a c S :=
  ⟨k.os.trans h.os, k.tape.trans h.tape, k.output.trans h.output, Nat.le_trans h.size k.size, fun i hi hS => (k.block i (Nat.lt_of_lt_of_le hi h.size) hS).trans (h.block i hi hS)⟩
theorem Kp.then {a b c : World} {S S' : Nat → Prop} (h : Kp a b S) (k : Kp b c S') (hS : ∀ i, i < a.heap.size → S' i → S i) : Kp a c S :=
  ⟨k.os.trans h.os, k.tape.trans h.tape, k.output.trans h.output, Nat.le_trans h.size k.size, fun i hi hn => (k.block i (Nat.lt_of_lt_of_le hi h.size) fun q => hn (hS i hi q)).trans (h.block i hi hn)⟩
theorem Kp.mono {a b : World} {S T : Nat → Prop} (h : Kp a b S) (hST : ∀ k, k < a.heap.size → S k → T k) : Kp a b T :=
  ⟨h.os, h.tape, h.output, h.size, fun i hi hT => h.block i hi fun hS => hT (hST i hi hS)⟩
theorem Kp.drewN {a b : World} {S : Nat → Prop} (h : Kp a b S) (n : Nat) : Kp a (b.drewN n) S := ⟨h.os, h.tape, h.output, h.size, h.block⟩
theorem Kp.drew {a b : World} {S : Nat → Prop} (h : Kp a b S) : Kp a b.drew S := ⟨h.os, h.tape, h.output, h.size, h.block⟩
theorem Kp.alloc {a b : World} {S : Nat → Prop} (h : Kp a b S) (o : Obj) : Kp a (b.alloc o) S :=
  h.trans ⟨rfl, rfl, rfl, by simp, fun k hk _ => Below.heap_alloc _ _ _ hk⟩
theorem Kp.setCell {a b : World} {S : Nat → Prop} (h : Kp a b S) {p : Addr} (hp : S p.block ∨ a.heap.size ≤ p.block) (u : Value) : Kp a (b.setCell p u) S :=
  ⟨h.os, h.tape, h.output, by simpa [World.setCell] using h.size, fun k hk hS => (Below.heap_setCell _ _ _ _ (fun e => by subst e; rcases hp with hp | hp; exact hS hp; omega)).trans (h.block k hk hS)⟩
theorem Kp.below {a b : World} {S : Nat → Prop} (h : Kp a b S) {B : Nat} (hB : ∀ k, k < a.heap.size → S k → B ≤ k) (hs : B ≤ a.heap.size) : Below B a b :=
  ⟨h.os, h.tape, h.output, h.size, fun k hk => h.block k (by omega) fun hS => by have := hB k (by omega) hS; omega⟩
theorem Kp.of_below {a b : World} (h : Below a.heap.size a b) (S : Nat → Prop) : Kp a b S := ⟨h.os, h.tape, h.output, h.size, fun k hk _ => h.block k hk⟩

abbrev KpN (w w' : World) : Prop := Kp w w' (fun _ => False)
/-- Block g holds these cells. -/
structure Bk (w : World) (g : Nat) (cs : Array Value) (T : TypeId) : Prop where
  blk : w.heap[g]? = some (.cells cs T (0, 0))
theorem Bk.kp {w w' : World} {g cs T} {S : Nat → Prop} (h : Bk w g cs T) (k : Kp w w' S) (hS : ¬ S g) : Bk w' g cs T := ⟨(k.block g (blk_lt h.blk) hS).trans h.blk⟩
theorem Bk.c {w : World} {g cs T} (h : Bk w g cs T) (j : Nat) : w.cell? ⟨g, j, none⟩ = cs[j]? := blk_cell h.blk j
theorem Bk.drew {w : World} {g cs T} (h : Bk w g cs T) : Bk w.drew g cs T := ⟨h.blk⟩
/-! whole structs: made, stored -/
section
variable {P : Program} {ops : Array Oper} {rest : List Oper} {o : Oper} {a : Act} {Q : Exit → Act → World → Prop}
theorem setRow_blk {W : World} {g : Nat} {old cs : Array Value} {t : TypeId} (hg : W.heap[g]? = some (.cells old t (0, 0))) : (W.setRow g cs).heap[g]? = some (.cells cs t (0, 0)) := by
  simp [World.setRow, Array.getElem?_modify, hg]
theorem Kp.setRow {W w : World} {S : Nat → Prop} (h : Kp W w S) (g : Nat) (cs : Array Value) (hg : S g ∨ W.heap.size ≤ g) : Kp W (w.setRow g cs) S :=
  ⟨h.os, h.tape, h.output, by simpa using h.size, fun k hk hS => by
    have hne : g ≠ k := by rintro rfl; rcases hg with hg | hg; exact hS hg; omega
    rw [← h.block k hk hS]; simp [World.setRow, Array.getElem?_modify, hne]⟩
theorem st_ev {W : World} (hgd : o.guard = none) {ty : TypeId} {x y : Operand} (ho : o.op = .store ty x y) (hN : o.dst = none) (g : Nat) (cs old : Array Value) (t : TypeId)
    (hx : a.eval x = .pointer (some ⟨g, 0, none⟩)) (hy : a.eval y = .agg cs) (hg : W.heap[g]? = some (.cells old t (0, 0))) (hi : (P.info? ty).map (·.size) = some cs.size)
    (hold : old.size = cs.size) (h1 : cs.all (·.oneCell') = true)
    (h : ∀ w1, w1.heap[g]? = some (.cells cs t (0, 0)) → Kp W w1 (fun i => i = g) → wpList P ops Q rest a w1) : wpList P ops Q (o :: rest) a W :=
  wpList_plain hgd fun K hK => wp_store_row ty x y ho g cs hx hy t old hg hi hold h1 (by rw [hN]; exact hK _ _ (h _ (setRow_blk hg) ((Kp.refl _ _).setRow g cs (.inl rfl))))
theorem bx_ev {W : World} (hgd : o.guard = none) {t : TypeId} {x : Operand} (ho : o.op = .box t x) {N : Tmp} (_hd : o.dst = some N) (cs : Array Value) (hx : a.eval x = .agg cs)
    (h : ∀ g, g = W.heap.size → ∀ w1, w1.heap[g]? = some (.cells cs t (0, 0)) → Kp W w1 (fun _ => False) → wpList P ops Q rest (a.put o.dst (.pointer (some ⟨g, 0, none⟩))) w1) : wpList P ops Q (o :: rest) a W := by
  refine wpList_plain hgd fun K hK => ?_
  have hrun : (execOp a.eval o).run P W = .ok (.value (.pointer (some ⟨W.heap.size, 0, none⟩))) (W.alloc (.cells cs t (0, 0))) := by
    unfold execOp
    simp only [ho, hx]
    rfl
  unfold Oper.wp
  rw [hrun]
  exact hK _ _ (h _ rfl _ (by simpa using heap_alloc_new W _) ((Kp.refl _ _).alloc _))
theorem al_ev {W : World} (hgd : o.guard = none) {t : TypeId} (ho : o.op = .alloc t) {N : Tmp} (_hd : o.dst = some N) (cs : Array Value) 
    (hz : (zeroValue t).run P W = .ok (.agg cs) W)
    (h : ∀ g, g = W.heap.size → ∀ w1, w1.heap[g]? = some (.cells cs t (0, 0)) → Kp W w1 (fun _ => False) → wpList P ops Q rest (a.put o.dst (.pointer (some ⟨g, 0, none⟩))) w1) : wpList P ops Q (o :: rest) a W := by
  refine wpList_plain hgd fun K hK => ?_
  have hrun : (execOp a.eval o).run P W = .ok (.value (.pointer (some ⟨W.heap.size, 0, none⟩))) (W.alloc (.cells cs t (0, 0))) := by
    unfold execOp
    simp only [ho, Instr.alloc, Sem.run_bind, hz, Result.andThen_ok]
    rfl
  unfold Oper.wp
  rw [hrun]
  exact hK _ _ (h _ rfl _ (by simpa using heap_alloc_new W _) ((Kp.refl _ _).alloc _))
end
end Go.Proofs.Ytlhdildnekllhaa.H
/- Words for proofs by hand: numbers of 64 bits, a row of 23 cells, what a call leaves as it was. -/
namespace Go.Proofs.Ytlhdildnekllhaa.H
open Go.RowKit Go.Proofs.YtlhdildnekllhaaW.PrintWords Go.Proofs.YtlhdildnekllhaaW.PrintLast Go.Proofs.Ytlhdildnekllhaa.PAl Go.Proofs.Ytlhdildnekllhaa.Pure Go.Proofs.Ytlhdildnekllhaa.Vw
set_option linter.unusedVariables false
set_option linter.unusedSimpArgs false

/-- A mode and 22 words. -/
structure VS where
  m : Int
  r : Nat → Nat
def VS.ok (s : VS) : Prop := ∀ i, U (s.r i)
def VS.set (s : VS) (j : Nat) (v : Nat) : VS := ⟨s.m, fun i => if i = j then v else s.r i⟩
def VS.mode (s : VS) (m : Int) : VS := ⟨m, s.r⟩
theorem VS.set_ok {s : VS} (h : s.ok) (j : Nat) {v : Nat} (hv : U v) : (s.set j v).ok := by
  intro i; show U (if i = j then v else s.r i); split; exact hv; exact h i
theorem VS.mode_ok {s : VS} (h : s.ok) (m : Int) : (s.mode m).ok := h
theorem VS.ext {a b : VS} (hm : a.m = b.m) (hr : a.r = b.r) : a = b := by cases a; cases b; simp_all
/-- Its cells. -/
def VS.cells (s : VS) : Array Value := #[.int .i64 s.m, .int .u64 (s.r 1 : Int), .int .u64 (s.r 2 : Int), .int .u64 (s.r 3 : Int), .int .u64 (s.r 4 : Int), .int .u64 (s.r 5 : Int), .int .u64 (s.r 6 : Int), .int .u64 (s.r 7 : Int), .int .u64 (s.r 8 : Int), .int .u64 (s.r 9 : Int), .int .u64 (s.r 10 : Int), .int .u64 (s.r 11 : Int), .int .u64 (s.r 12 : Int), .int .u64 (s.r 13 : Int), .int .u64 (s.r 14 : Int), .int .u64 (s.r 15 : Int), .int .u64 (s.r 16 : Int), .int .u64 (s.r 17 : Int), .int .u64 (s.r 18 : Int), .int .u64 (s.r 19 : Int), .int .u64 (s.r 20 : Int), .int .u64 (s.r 21 : Int), .int .u64 (s.r 22 : Int)]
theorem VS.size (s : VS) : s.cells.size = 23 := rfl
theorem VS.at0 (s : VS) : s.cells[0]? = some (.int .i64 s.m) := rfl
theorem VS.at_ (s : VS) (j : Nat) (h1 : 1 ≤ j) (h2 : j ≤ 22) : s.cells[j]? = some (.int .u64 (s.r j : Int)) := by
  rcases j with _ | _ | _ | _ | _ | _ | _ | _ | _ | _ | _ | _ | _ | _ | _ | _ | _ | _ | _ | _ | _ | _ | _ | j
  · omega
  all_goals first | rfl | omega
theorem VS.put0 (s : VS) (m : Int) : s.cells.setIfInBounds 0 (.int .i64 m) = (s.mode m).cells := rfl
theorem VS.put_ (s : VS) (j : Nat) (h1 : 1 ≤ j) (h2 : j ≤ 22) (v : Nat) : s.cells.setIfInBounds j (.int .u64 (v : Int)) = (s.set j v).cells := by
  rcases j with _ | _ | _ | _ | _ | _ | _ | _ | _ | _ | _ | _ | _ | _ | _ | _ | _ | _ | _ | _ | _ | _ | _ | j
  · omega
  all_goals first | rfl | omega
/-- Block g holds it. -/
structure St (T : TypeId) (w : World) (g : Nat) (s : VS) : Prop where
  blk : w.heap[g]? = some (.cells s.cells T (0, 0))
theorem St.c0 {T w g s} (h : St T w g s) : w.cell? ⟨g, 0, none⟩ = some (.int .i64 s.m) := (blk_cell h.blk 0).trans (VS.at0 s)
theorem St.c {T w g s} (h : St T w g s) (j : Nat) (h1 : 1 ≤ j := by decide) (h2 : j ≤ 22 := by decide) : w.cell? ⟨g, j, none⟩ = some (.int .u64 (s.r j : Int)) := (blk_cell h.blk j).trans (VS.at_ s j h1 h2)
theorem St.f {T w g s} (h : St T w g s) (j : Nat) : w.frozen? ⟨g, j, none⟩ = false := blk_frozen h.blk j
theorem St.drewN {T w g s} (h : St T w g s) (n : Nat) : St T (w.drewN n) g s := ⟨h.blk⟩
theorem St.drew {T w g s} (h : St T w g s) : St T w.drew g s := ⟨h.blk⟩
theorem St.lt {T w g s} (h : St T w g s) : g < w.heap.size := blk_lt h.blk
theorem St.alloc {T w g s} (h : St T w g s) (o : Obj) : St T (w.alloc o) g s := ⟨blk_alloc h.blk o⟩
theorem St.set0 {T w g s} (h : St T w g s) (m : Int) : St T (w.setCell ⟨g, 0, none⟩ (.int .i64 m)) g (s.mode m) := ⟨by rw [← VS.put0]; exact blk_set h.blk 0 _⟩
theorem St.set {T w g s} (h : St T w g s) (j : Nat) (v : Nat) (h1 : 1 ≤ j := by decide) (h2 : j ≤ 22 := by decide) : St T (w.setCell ⟨g, j, none⟩ (.int .u64 (v : Int))) g (s.set j v) := ⟨by rw [← VS.put_ s j h1 h2]; exact blk_set h.blk j _⟩
theorem St.far {T w g s} (h : St T w g s) {p : Addr} (hp : g ≠ p.block) (u : Value) : St T (w.setCell p u) g s := ⟨(Below.heap_setCell _ _ _ _ hp).trans h.blk⟩
theorem St.kp {T w g s w'} {S : Nat → Prop} (h : St T w g s) (k : Kp w w' S) (hS : ¬ S g) : St T w' g s := ⟨(k.block g h.lt hS).trans h.blk⟩
theorem St.new (T : TypeId) (w : World) (s : VS) : St T (w.alloc (.cells s.cells T)) w.heap.size s := ⟨by simpa using heap_alloc_new w _⟩

theorem VS.one (s : VS) : s.cells.all (·.oneCell') = true := by unfold VS.cells; simp [Value.oneCell']
/-! the leaves -/
theorem get_c (x : Nat) (a n : Int) (w : World) (hx : U x) : Calls Try.prog 32 #[.int .u64 (x : Int), .int .i64 a, .int .i64 n] w fun e w' => e = .returned (.int .u64 ((getW x a n : Nat) : Int)) ∧ ∃ m, w' = w.drewN m :=
  (word_Get.calls _ _ _ _ w (word_Get_is x a n hx.lt)).mono fun e w' h => ⟨h.1, h.2.out⟩
def bitW (x : Nat) (a : Int) : Bool := decide (0 ≤ a ∧ a ≤ 63) && x.testBit a.toNat
theorem bit_c (x : Nat) (a : Int) (w : World) (hx : U x) : Calls Try.prog 51 #[.int .u64 (x : Int), .int .i64 a] w fun e w' => e = .returned (.bool (bitW x a)) ∧ ∃ m, w' = w.drewN m :=
  (word_Bit.calls _ _ _ w (word_Bit_is x a hx.lt)).mono fun e w' h => ⟨h.1, h.2.out⟩
theorem U.get {x : Nat} (h : U x) (a n : Int) : U (getW x a n) := ⟨getW_lt h.lt a n⟩
theorem U.put {x : Nat} (h : U x) (a n : Int) (v : Nat) : U (putW x a n v) := ⟨putW_lt h.lt a n v⟩
theorem U.and {x y : Nat} (h : U x) : U (x &&& y) := ⟨and_lt h.lt⟩
theorem U.or {x y : Nat} (h : U x) (k : U y) : U (x ||| y) := ⟨or_lt h.lt k.lt⟩
/-- x without the bits of y -/
def minus (x y : Nat) : Nat := x &&& (18446744073709551615 - y)
theorem U.minus {x y : Nat} (h : U x) : U (minus x y) := ⟨and_lt h.lt⟩
theorem and_c {x y : Nat} (h : U x) (k : U y) : Go.bits .and .u64 (x : Int) (y : Int) = ((x &&& y : Nat) : Int) := and_nat x y h.lt k.lt
theorem or_c {x y : Nat} (h : U x) (k : U y) : Go.bits .or .u64 (x : Int) (y : Int) = ((x ||| y : Nat) : Int) := or_nat x y h.lt k.lt
theorem minus_c {x y : Nat} (h : U x) (k : U y) : Go.bits .andNot .u64 (x : Int) (y : Int) = ((minus x y : Nat) : Int) := andNot_nat x y h.lt k.lt
theorem U.num {n : Nat} (h : n < 18446744073709551616 := by decide) : U n := ⟨h⟩
end Go.Proofs.Ytlhdildnekllhaa.H
/- Words for proofs by hand: what keeps all blocks; a block's cells. -/
namespace Go.Proofs.Ytlhdildnekllhaa.H
open Go.RowKit Go.Proofs.YtlhdildnekllhaaW.PrintWords Go.Proofs.YtlhdildnekllhaaW.PrintLast Go.Proofs.Ytlhdildnekllhaa.PAl Go.Proofs.Ytlhdildnekllhaa.Pure Go.Proofs.Ytlhdildnekllhaa.Vw
set_option linter.unusedVariables false
set_option linter.unusedSimpArgs false
theorem bit_eq (x : Nat) (a : Int) : ((((getW x a 1 : Nat) : Int)) == 1) = bitW x a := by
  rw [getW_one]; unfold bitW
  cases (decide (0 ≤ a ∧ a ≤ 63) && x.testBit a.toNat) <;> rfl
end Go.Proofs.Ytlhdildnekllhaa.H
/- A region that draws its order: operations that read, or call what only lays new blocks, ahead of a tail in one forced order. After the library's proof of 'wp_region_still_tail' (one world), here over a class of worlds. -/
namespace Go.Proofs.Ytlhdildnekllhaa.H
open Go.RowKit Go.Proofs.YtlhdildnekllhaaW.PrintWords Go.Proofs.YtlhdildnekllhaaW.PrintLast Go.Proofs.Ytlhdildnekllhaa.PAl
set_option linter.unusedVariables false
set_option linter.unusedSimpArgs false
open Go.Sort
section
variable {P : Program} {ops : Array Oper} {md : Region.Mode} {C : World → Prop}
def wpAnyLQ (P : Program) (md : Region.Mode) (ops : Array Oper) (C : World → Prop) (n : Nat) (L : Array Bool → Act → Prop) : Nat → Array Bool → Act → Prop
  | 0, listed, a => L listed a
  | f + 1, listed, a =>
    Region.ready md ops listed ≠ [] ∧ ∀ i ∈ Region.ready md ops listed, i < n ∧ qOp P ops C i (wpAnyLQ P md ops C n L f (listed.setIfInBounds i true)) a
theorem wpAny_of_headQ {n g : Nat} {L : Array Bool → Act → Prop} {Q' : Exit → Act → World → Prop} (hL : ∀ listed a w, C w → L listed a → wpAny P md ops Q' g listed a w) :
    ∀ (f : Nat) (listed : Array Bool) (a : Act) (w : World), C w → wpAnyLQ P md ops C n L f listed a → wpAny P md ops Q' (f + g) listed a w
  | 0, listed, a, w, hw, h => by rw [Nat.zero_add]; exact hL _ _ _ hw h
  | f + 1, listed, a, w, hw, h => by
    rw [show f + 1 + g = (f + g) + 1 by omega]
    exact ⟨fun h0 => absurd h0 h.1, fun i hi => wpOp_of_qOp hw (fun a' w' hw' h' => wpAny_of_headQ hL f _ a' w' hw' h') (h.2 i hi).2⟩
theorem wpAnyLQ_first {n i : Nat} {oi : Oper} {v : Value} {L : Array Bool → Act → Prop} (hi : ops[i]? = some oi) (hsel : ∀ (j : Nat) (o : Oper) cs b, ops[j]? = some o → o.op ≠ .select cs b)
    (hs : Region.sinkB md ops n = true) (hc : Region.chainB md ops n = true) (hn : n < ops.size) (hin : i < n)
    (hdone : ∀ listed a, L listed a → ∀ j ∈ Region.ready md ops listed, n ≤ j) :
    ∀ (f : Nat) (listed : Array Bool) (a : Act), HeadInv md ops n listed →
      (∀ j oj, ops[j]? = some oj → j ≠ i → listed.getD j true = false → (∀ e ∈ oj.after, Region.binds md e = true → e.on ≠ i) → oi.apart ops oj = true) →
      i ∈ Region.ready md ops listed → YieldsIn P ops C oi v a →
      wpAnyLQ P md ops C n L f (listed.setIfInBounds i true) (a.put oi.dst v) → wpAnyLQ P md ops C n L (f + 1) listed a := by
  intro f
  induction f with
  | zero =>
    intro listed a inv _ hr hy H
    have hun := (mem_ready.1 hr).1
    refine ⟨fun h => (by rw [h] at hr; cases hr), fun j hj => ?_⟩
    have hjn : j < n := by
      rcases Nat.lt_or_ge j n with h | h
      · exact h
      · exact absurd hj (tail_waits hs hc hn inv _ i rfl hin hun j h)
    refine ⟨hjn, ?_⟩
    by_cases hji : j = i
    · subst hji; exact hy.qOp hi H
    · have := hdone _ _ H j (ready_mono hj hji)
      omega
  | succ f ih =>
    intro listed a inv hfree hr hy H
    have hun := (mem_ready.1 hr).1
    refine ⟨fun h => (by rw [h] at hr; cases hr), fun j hj => ?_⟩
    have hjn : j < n := by
      rcases Nat.lt_or_ge j n with h | h
      · exact h
      · exact absurd hj (tail_waits hs hc hn inv _ i rfl hin hun j h)
    refine ⟨hjn, ?_⟩
    by_cases hji : j = i
    · subst hji; exact hy.qOp hi H
    · have h1 := (H.2 j (ready_mono hj hji)).2
      obtain ⟨hjun, oj, hoj, hall⟩ := mem_ready.1 hj
      have hnot : ∀ e ∈ oj.after, Region.binds md e = true → e.on ≠ i := fun e he hb heq => by
        have h1 := hall e he hb
        rw [heq, getD_both hun] at h1
        cases h1
      have h2 := qOp_put hoj (hfree j oj hoj hji hjun hnot) (fun cs b => hsel i oi cs b hi) (fun cs b => hsel j oj cs b hoj) hy h1
      have hfree' : ∀ k ok, ops[k]? = some ok → k ≠ i → (listed.setIfInBounds j true).getD k true = false →
          (∀ e ∈ ok.after, Region.binds md e = true → e.on ≠ i) → oi.apart ops ok = true := fun k ok hk hki hun hno => by
        refine hfree k ok hk hki ?_ hno
        by_cases hjk : j = k
        · subst hjk; exact hjun
        · rw [getD_set_ne true hjk] at hun; exact hun
      refine qOp_mono (fun a' h3 => ih (listed.setIfInBounds j true) a' (inv.set hj hjn) hfree' (ready_mono hr (Ne.symm hji)) h3.1 ?_) h2
      rw [Array.setIfInBounds_comm _ _ hji]
      exact h3.2
theorem wpAnyLQ_lex {n g : Nat} {Lq : Act → Prop} (hsel : Region.noSelect ops = true) (hs : Region.sinkB md ops n = true) (hc : Region.chainB md ops n = true) (hn : n < ops.size) :
    ∀ (l : List Oper) (k : Nat) (listed : Array Bool) (a : Act), (∀ j, j < l.length → l[j]? = ops[k + j]?) → k + l.length = n → HeadInv md ops n listed →
    Region.lexHead md ops g l.length k listed = true → wpQuiet P ops C Lq l a →
    wpAnyLQ P md ops C n (fun listed' a' => Region.seqB md ops g n listed' = true ∧ Lq a') l.length listed a
  | [], k, listed, a, _, hk, _, hB, h => by
    have : k = n := by simpa using hk
    subst this
    exact ⟨by simpa [Region.lexHead] using hB, h⟩
  | o :: l, k, listed, a, hl, hk, inv, hB, h => by
    have h0 : ops[k]? = some o := by simpa using (hl 0 (by simp)).symm
    simp only [List.length_cons, Region.lexHead, Bool.and_eq_true] at hB
    obtain ⟨⟨hr, hf⟩, hB'⟩ := hB
    have hkn : k < n := by simp only [List.length_cons] at hk; omega
    have hr' : k ∈ Region.ready md ops listed := by simpa using hr
    have hst : qOp P ops C k (wpQuiet P ops C Lq l) a := by unfold qOp; simp only [h0]; exact h
    obtain ⟨v, hy, hK⟩ := yieldsIn_of_qOp h0 hst
    exact wpAnyLQ_first h0 (Region.noSelect_spec hsel) hs hc hn hkn (fun listed' a' hL => seqB_ready hL.1) l.length listed a inv (Region.free_spec h0 hf) hr' hy
      (wpAnyLQ_lex hsel hs hc hn l (k + 1) _ _ (fun j hj => by have := hl (j + 1) (by simp; omega); simpa [Nat.add_assoc, Nat.add_comm 1 j] using this) (by simp only [List.length_cons] at hk; omega) (inv.set hr' hkn) hB' hK)
theorem wp_region_class_tail {id : Nat} {Q : Exit → Act → World → Prop} {a : Act} {w : World} {l : List Oper} (n : Nat) (hm : P.follows .mixedOrders = true) (hB : Region.lexTailB .any l.toArray n = true) (hw : C { w with drawn := w.drawn + 1 })
    (h : wpQuiet P l.toArray C (fun a' => ∀ w', C w' → wpList P l.toArray Q (l.drop n) a' w') (l.take n) a) : (Code.region id l.toArray true).wp P Q a w := by
  simp only [Region.lexTailB, Bool.and_eq_true, decide_eq_true_eq] at hB
  obtain ⟨⟨⟨⟨hsel, hn⟩, hs⟩, hc⟩, hlex⟩ := hB
  have hn' : n < l.length := by simpa using hn
  have htl : (l.take n).length = n := by simp; omega
  have hdl : (l.drop n).length = l.toArray.size - n := by simp
  have inv0 : HeadInv .any l.toArray n (Array.replicate l.toArray.size false) :=
    ⟨by simp, fun j oj _ hl => (by rw [getD_replicate_false] at hl; cases hl), fun t _ ht => getD_in (by simpa using ht) (getD_replicate_false _ _)⟩
  have H := wpAnyLQ_lex (md := .any) (g := l.toArray.size - n) hsel hs hc hn (l.take n) 0 _ a (fun j hj => by
    have hj' : j < n := by rw [htl] at hj; exact hj
    simp [hj']) (by simpa using htl) inv0 (by rw [htl]; exact hlex) h
  refine wp_region_any hm ?_
  have := wpAny_of_headQ (Q' := Q) (g := l.toArray.size - n) (fun listed a' w' hw' hL => by
    have := wpAny_of_seq (md := .any) (Q' := Q) (l.drop n) n listed a' w' (fun j => by simp [List.getElem?_drop]) (by rw [hdl]; exact hL.1) (hL.2 w' hw')
    rwa [hdl] at this) _ _ _ _ hw H
  rw [htl, show n + (l.toArray.size - n) = l.toArray.size by omega] at this
  exact this
/-- The class: what was there is as it was, blocks may have been laid. -/
abbrev Rg (w w' : World) : Prop := ∃ p : Regrown, w' = grow (redrawn w p.d) p.os
theorem wp_region_rg {id : Nat} {Q : Exit → Act → World → Prop} {a : Act} {w : World} {l : List Oper} (n : Nat) (hm : P.follows .mixedOrders = true) (hB : Region.lexTailB .any l.toArray n = true)
    (h : wpQuiet P l.toArray (Rg w) (fun a' => ∀ w', Rg w w' → wpList P l.toArray Q (l.drop n) a' w') (l.take n) a) : (Code.region id l.toArray true).wp P Q a w :=
  wp_region_class_tail (C := Rg w) n hm hB ⟨⟨w.drawn + 1, #[]⟩, by rw [grow_empty]; rfl⟩ h
theorem Rg.kp {w w' : World} (h : Rg w w') : KpN w w' := by obtain ⟨p, rfl⟩ := h; exact Kp.of_below (below_regrown w p.d p.os) _
theorem rg_calls {f : FuncId} {args : Array Value} {w : World} {v : Value} (h : ∀ W, KpN w W → Calls P f args W fun e w' => e = .returned v ∧ KpN W w') :
    ∀ d os, Calls P f args (grow (redrawn w d) os) fun e w'' => e = .returned v ∧ ∃ p : Regrown, w'' = grow (redrawn w p.d) p.os :=
  fun d os => Calls.regrown_of ((h _ (Kp.of_below (below_regrown w d os) _)).mono fun _ _ h => ⟨h.1, h.2.below (fun _ _ h => h.elim) (Nat.le_refl _)⟩)
/-- A whole row, read in a region that draws. -/
theorem wpQuiet_ld {Q : Act → Prop} {a : Act} {o : Oper} {rest : List Oper} (hgd : Region.wanted o (yielded ops a.tmps) = true) {ty : TypeId} {x : Operand} (ho : o.op = .load ty x) (g : Nat) (hx : a.eval x = .pointer (some ⟨g, 0, none⟩)) (t : TypeId) (cs : Array Value) (d : TypeDesc)
    (hg : ∀ w, C w → w.heap[g]? = some (.cells cs t (0, 0))) (hu : P.underlying ty = some d) (hd : (match d with | .struct _ | .array _ _ => true | _ => false) = true) (hi : (P.info? ty).map (·.size) = some cs.size)
    (h : wpQuiet P ops C Q rest (a.put o.dst (.agg cs))) : wpQuiet P ops C Q (o :: rest) a := by
  show if _ then _ else _
  rw [if_pos hgd]
  refine ⟨.agg cs, fun w hC => ?_, h⟩
  unfold Oper.quietAt execOp
  simp only [ho, hx, Instr.loadAt, Instr.sureAddr, Sem.run_bind, Sem.run_pure, Result.andThen_ok, run_loadVar_row w g t ty cs (0, 0) d (hg w hC) hu hd hi]
  exact ⟨rfl, rfl⟩
end
end Go.Proofs.Ytlhdildnekllhaa.H
/- A map from numbers to blocks: what a look-up finds, what a store leaves. -/
namespace Go.Proofs.Ytlhdildnekllhaa.H
open Go.RowKit Go.Proofs.YtlhdildnekllhaaW.PrintWords Go.Proofs.YtlhdildnekllhaaW.PrintLast Go.Proofs.Ytlhdildnekllhaa.PAl Go.Proofs.Ytlhdildnekllhaa.Pure Go.Proofs.Ytlhdildnekllhaa.Vw
set_option linter.unusedVariables false
set_option linter.unusedSimpArgs false
open Go.Maps (Keyed)
open Go.ChangeMaps Go.MapKept
open Go.WideElems (Fit rd rg pl)
/-- A pointer to the head of a block reads as the block's number. -/
def ptrR (v : Value) : Option (DataW Unit × List MemPlace) :=
  match v with
  | .pointer (some ⟨b, 0, none⟩) => some (.lit (.int .u64 (b : Int)), [])
  | _ => none
theorem ptrR_inv {v : Value} {y : DataW Unit × List MemPlace} (h : ptrR v = some y) : ∃ b : Nat, v = .pointer (some ⟨b, 0, none⟩) ∧ y = (.lit (.int .u64 (b : Int)), []) := by
  unfold ptrR at h
  split at h
  · cases h; exact ⟨_, rfl, rfl⟩
  · cases h
/-- Block B is a map of at most n entries; pg: what stands at each number. -/
structure PMap (P : Program) (k : TypeId) (w : World) (B n : Nat) (pg : Nat → Option Nat) : Prop where
  ex : ∃ D : DataW Unit, w.ownsMap P k ptrR B n D ∧ Go.Maps.IsMap D ∧ ∀ (i : Nat) (zd : DataW Unit), i < 18446744073709551616 → D.atKey (.int .u64 (i : Int)) zd = match pg i with | none => zd | some b => .lit (.int .u64 (b : Int))
theorem wf64 {i : Nat} (h : i < 18446744073709551616) : (Lit.int .u64 (i : Int)).wf = true := WalkArith.wf_u64 (by omega)
section
variable {P : Program} {k : TypeId} {w : World} {B n : Nat} {pg : Nat → Option Nat}
theorem PMap.made (w : World) : PMap P k (w.alloc (.map #[] 0)) w.heap.size 0 (fun _ => none) :=
  ⟨.map [], World.ownsMap_made _ _ _ _, Go.Maps.isMap_empty, fun _ _ _ => rfl⟩
theorem PMap.lt (h : PMap P k w B n pg) : B < w.heap.size := by obtain ⟨D, h, _⟩ := h.ex; exact h.lt
theorem PMap.mono (h : PMap P k w B n pg) {n' : Nat} (hn : n ≤ n') : PMap P k w B n' pg := by
  obtain ⟨D, h, h1, h2⟩ := h.ex; exact ⟨D, h.mono hn, h1, h2⟩
theorem PMap.of_heap {w' : World} (h : PMap P k w B n pg) (e : w'.heap[B]? = w.heap[B]?) : PMap P k w' B n pg := by
  obtain ⟨D, ⟨es, clock, hb, F, hs, hD⟩, h1, h2⟩ := h.ex
  exact ⟨D, ⟨es, clock, e.trans hb, F, hs, hD⟩, h1, h2⟩
theorem PMap.kp {w' : World} {S : Nat → Prop} (h : PMap P k w B n pg) (q : Kp w w' S) (hS : ¬ S B) : PMap P k w' B n pg := h.of_heap (q.block B h.lt hS)
theorem PMap.drewN (h : PMap P k w B n pg) (m : Nat) : PMap P k (w.drewN m) B n pg := h.of_heap rfl
theorem PMap.drew (h : PMap P k w B n pg) : PMap P k w.drew B n pg := h.of_heap rfl
/-- What a look-up finds. -/
theorem PMap.look {t e : TypeId} (h : PMap P k w B n pg) (K : Keyed P k) (hk : P.underlying k = some (.int .u64)) (ht : P.underlying t = some (.map k e)) (hz : (zeroValue e).run P w = .ok (.pointer none) w) {i : Nat} (hi : i < 18446744073709551616) :
    (Instr.lookup t (.map (some B)) (.int .u64 (i : Int)) true).run P w = .ok (match pg i with | none => .tuple #[.pointer none, .bool false] | some b => .tuple #[.pointer (some ⟨b, 0, none⟩), .bool true]) w := by
  obtain ⟨D, ⟨es, clock, hb, F, hs, rfl⟩, h1, h2⟩ := h.ex
  have hkey : keyOf P k (.int .u64 (i : Int)) = some (.int .u64 (i : Int)) := Go.Maps.keyOf_int_mk hk (wf64 hi)
  rcases Go.Maps.fit_look true K ht hz hb F hkey with ⟨hrun, _, hat⟩ | ⟨e0, y, _, _, hrun, hR, hat, _⟩
  · rw [hrun]
    cases hp : pg i with
    | none => rfl
    | some b =>
      have q1 := hat .nil
      rw [h2 i .nil hi, hp] at q1
      cases q1
  · rw [hrun]
    obtain ⟨b, hv, hy⟩ := ptrR_inv hR
    cases hp : pg i with
    | none =>
      have q1 := hat .nil
      rw [h2 i .nil hi, hp, hy] at q1
      cases q1
    | some b' =>
      have q1 := hat .nil
      rw [h2 i .nil hi, hp, hy] at q1
      have : (b' : Int) = (b : Int) := by injection q1 with q1; injection q1
      have hbb : b' = b := by omega
      subst hbb
      rw [hv]; rfl
/-- What a store leaves. -/
theorem PMap.store {t e : TypeId} (h : PMap P k w B n pg) (K : Keyed P k) (hk : P.underlying k = some (.int .u64)) (ht : P.underlying t = some (.map k e)) (hn : n < maxLen) {i : Nat} (hi : i < 18446744073709551616) (b : Nat) :
    ∃ w', (Instr.mapUpdate t (.map (some B)) (.int .u64 (i : Int)) (.pointer (some ⟨b, 0, none⟩))).run P w = .ok () w' ∧ PMap P k w' B (n + 1) (fun j => if j = i then some b else pg j) ∧ Kp w w' (fun j => j = B) := by
  obtain ⟨D, h, h1, h2⟩ := h.ex
  have hkey : keyOf P k (.int .u64 (i : Int)) = some (.int .u64 (i : Int)) := Go.Maps.keyOf_int_mk hk (wf64 hi)
  obtain ⟨w', hrun, hown, hg⟩ := h.update K ht hn hkey (val := .pointer (some ⟨b, 0, none⟩)) (d := .lit (.int .u64 (b : Int))) (ps := []) rfl
  refine ⟨w', hrun, ⟨_, hown, h1.put _ _, fun j zd hj => ?_⟩, ⟨hg.os, hg.tape, hg.output, hg.size, fun j hj hne => hg.block j hj (fun q => hne (by injection q))⟩⟩
  by_cases hji : j = i
  · subst hji
    rw [Go.Maps.atKey_put_same h1 (K.key hkey)]
    simp
  · rw [Go.Maps.atKey_put_other (by intro q; injection q with q1 q2; omega), h2 j zd hj]
    simp [hji]
end
section
variable {P : Program} {ops : Array Oper} {rest : List Oper} {o : Oper} {a : Act} {Q : Exit → Act → World → Prop}
theorem lk_ev {w : World} (hgd : o.guard = none) (m x : Operand) (t k e : TypeId) (ho : o.op = .lookup t m x true) (B n : Nat) (pg : Nat → Option Nat) (i : Nat) (hm : a.eval m = .map (some B)) (hx : a.eval x = .int .u64 (i : Int))
    (h : PMap P k w B n pg) (K : Keyed P k) (hk : P.underlying k = some (.int .u64)) (ht : P.underlying t = some (.map k e)) (hz : (zeroValue e).run P w = .ok (.pointer none) w) (hi : i < 18446744073709551616) (v : Value)
    (hv : v = match pg i with | none => .tuple #[.pointer none, .bool false] | some b => .tuple #[.pointer (some ⟨b, 0, none⟩), .bool true])
    (hK : wpList P ops Q rest (a.put o.dst v) w) : wpList P ops Q (o :: rest) a w := by
  refine wpList_plain hgd fun K' hK' => ?_
  unfold Oper.wp execOp
  simp only [ho, hm, hx, Sem.run_bind, h.look K hk ht hz hi, Result.andThen_ok, ← hv]
  exact hK' _ _ hK
theorem up_ev {w : World} (hgd : o.guard = none) (m x y : Operand) (t k e : TypeId) (ho : o.op = .mapUpdate t m x y) (hd : o.dst = none) (B n : Nat) (pg : Nat → Option Nat) (i b : Nat) (hm : a.eval m = .map (some B)) (hx : a.eval x = .int .u64 (i : Int)) (hy : a.eval y = .pointer (some ⟨b, 0, none⟩))
    (h : PMap P k w B n pg) (K : Keyed P k) (hk : P.underlying k = some (.int .u64)) (ht : P.underlying t = some (.map k e)) (hn : n < maxLen) (hi : i < 18446744073709551616)
    (hK : ∀ w1, PMap P k w1 B (n + 1) (fun j => if j = i then some b else pg j) → Kp w w1 (fun j => j = B) → wpList P ops Q rest a w1) : wpList P ops Q (o :: rest) a w := by
  refine wpList_plain hgd fun K' hK' => ?_
  obtain ⟨w', hrun, h1, h2⟩ := h.store K hk ht hn hi b
  unfold Oper.wp execOp
  have := hK' _ _ (hK w' h1 h2)
  rw [show a = a.put o.dst undef from by rw [hd]; rfl] at this
  simp only [ho, hm, hx, hy, Sem.run_bind, hrun, Result.andThen_ok]
  exact this
end
end Go.Proofs.Ytlhdildnekllhaa.H
/- A machine's memory (package ram), walked by hand: bytes are read and written. -/
namespace Go.Proofs.Ytlhdildnekllhaa.H
open Go.RowKit Go.Proofs.YtlhdildnekllhaaW.PrintWords Go.Proofs.YtlhdildnekllhaaW.PrintLast Go.Proofs.Ytlhdildnekllhaa.PAl Go.Proofs.Ytlhdildnekllhaa.Pure Go.Proofs.Ytlhdildnekllhaa.Vw
set_option linter.unusedVariables false
set_option linter.unusedSimpArgs false
open Go.Maps (Keyed)
abbrev QT : TypeId := 84
abbrev GT : TypeId := 87
theorem keyed64 : Keyed Try.prog 23 := Go.Maps.int_keyed Try.underlying23
theorem zeroPP (w : World) : (zeroValue 85).run Try.prog w = .ok (.pointer none) w := by kernel_rfl
def zPage : Array Value := Array.replicate 4096 (.int .u8 0)
theorem zeroG (w : World) : (zeroValue GT).run Try.prog w = .ok (.agg zPage) w := by kernel_rfl
theorem infoG : (Try.prog.info? GT).map (·.size) = some 4096 := by kernel_rfl
theorem buildG (w : World) : (Instr.build GT #[]).run Try.prog w = .ok (.agg zPage) w := by
  unfold Instr.build
  simp only [Sem.run_bind, zeroG, Result.andThen_ok, run_underlying Try.underlying87 w]
  have hs : (sizeOf 5).run Try.prog w = .ok 1 w := by kernel_rfl
  simp only [Sem.run_bind, hs, Result.andThen_ok]
  rfl
theorem bd_ev {P : Program} {ops : Array Oper} {rest : List Oper} {o : Oper} {a : Act} {Q : Exit → Act → World → Prop} {w : World} (hgd : o.guard = none) {t : TypeId} (ho : o.op = .build t #[]) (Z : Array Value) (hz : ∀ W, (Instr.build t #[]).run P W = .ok (.agg Z) W)
    (h : wpList P ops Q rest (a.put o.dst (.agg Z)) w) : wpList P ops Q (o :: rest) a w := by
  refine wpList_plain hgd fun K hK => ?_
  have hrun : (execOp a.eval o).run P w = .ok (.value (.agg Z)) w := by
    unfold execOp
    simp only [ho, Array.map_empty, Sem.run_bind, hz, Result.andThen_ok]
    rfl
  unfold Oper.wp
  rw [hrun]
  exact hK _ _ h
/-- The cells of page k. -/
def pageC (M : Nat → Nat) (k : Nat) : Array Value := (Array.range 4096).map fun j => .int .u8 ((M (k * 4096 + j) : Nat) : Int)
theorem pageC_size (M : Nat → Nat) (k : Nat) : (pageC M k).size = 4096 := by simp [pageC]
theorem pageC_at (M : Nat → Nat) (k j : Nat) (h : j < 4096) : (pageC M k)[j]? = some (.int .u8 ((M (k * 4096 + j) : Nat) : Int)) := by
  simp [pageC, h]
theorem zPage_eq (M : Nat → Nat) (k : Nat) (h : ∀ j, j < 4096 → M (k * 4096 + j) = 0) : zPage = pageC M k := by
  apply Array.ext_getElem?
  intro j
  by_cases hj : j < 4096
  · rw [pageC_at M k j hj, h j hj]; simp [zPage, hj]
  · rw [Array.getElem?_eq_none (by simp [zPage]; omega), Array.getElem?_eq_none (by rw [pageC_size]; omega)]
theorem zPage_one : zPage.all (·.oneCell') = true := by
  rw [Array.all_eq_true]
  intro i hi
  simp [zPage, Value.oneCell']
/-- Memory with another byte. -/
def putB (M : Nat → Nat) (o v : Nat) : Nat → Nat := fun x => if x = o then v else M x
theorem pageC_put (M : Nat → Nat) (k j v : Nat) (h : j < 4096) : (pageC M k).setIfInBounds j (.int .u8 (v : Int)) = pageC (putB M (k * 4096 + j) v) k := by
  apply Array.ext_getElem?
  intro i
  rw [Array.getElem?_setIfInBounds]
  by_cases hi : i < 4096
  · rw [pageC_at M k i hi, pageC_at (putB M (k * 4096 + j) v) k i hi, pageC_size]
    by_cases e : j = i
    · subst e; rw [if_pos rfl, if_pos h]; simp [putB]
    · rw [if_neg e]
      have : ¬ k * 4096 + i = k * 4096 + j := by omega
      unfold putB; rw [if_neg this]
  · rw [Array.getElem?_eq_none (show (pageC M k).size ≤ i by rw [pageC_size]; omega), Array.getElem?_eq_none (show (pageC (putB M (k * 4096 + j) v) k).size ≤ i by rw [pageC_size]; omega)]
    rw [if_neg (show ¬ j = i by omega)]
theorem pageC_other (M : Nat → Nat) (k k' j v : Nat) (h : j < 4096) (hk : k' ≠ k) : pageC (putB M (k * 4096 + j) v) k' = pageC M k' := by
  apply Array.ext_getElem?
  intro i
  by_cases hi : i < 4096
  · rw [pageC_at (putB M (k * 4096 + j) v) k' i hi, pageC_at M k' i hi]
    have : ¬ k' * 4096 + i = k * 4096 + j := by omega
    simp [putB, this]
  · rw [Array.getElem?_eq_none (by rw [pageC_size]; omega), Array.getElem?_eq_none (by rw [pageC_size]; omega)]
/-- Block g is a memory of so many bytes; M: its bytes. -/
structure Rm (w : World) (g B n size : Nat) (pg : Nat → Option Nat) (M : Nat → Nat) : Prop where
  blk : Bk w g #[.int .u64 (size : Int), .map (some B), .pointer none] QT
  map : PMap Try.prog 23 w B n pg
  pag : ∀ k b, pg k = some b → w.heap[b]? = some (.cells (pageC M k) GT (0, 0))
  non : ∀ k, pg k = none → ∀ j, j < 4096 → M (k * 4096 + j) = 0
  byt : ∀ o, M o < 256
  gB : g ≠ B
  ga : ∀ k b, pg k = some b → b ≠ g ∧ b ≠ B
  inj : ∀ k k' b, pg k = some b → pg k' = some b → k = k'
/-- Such blocks. -/
def memB (g B : Nat) (pg : Nat → Option Nat) (i : Nat) : Prop := i = g ∨ i = B ∨ ∃ k, pg k = some i
theorem Rm.kp {w w' : World} {g B n size pg M} {S : Nat → Prop} (h : Rm w g B n size pg M) (q : Kp w w' S) (hS : ∀ i, memB g B pg i → ¬ S i) : Rm w' g B n size pg M :=
  ⟨h.blk.kp q (hS g (.inl rfl)), h.map.kp q (hS B (.inr (.inl rfl))), fun k b hb => (q.block b (blk_lt (h.pag k b hb)) (hS b (.inr (.inr ⟨k, hb⟩)))).trans (h.pag k b hb), h.non, h.byt, h.gB, h.ga, h.inj⟩
theorem Rm.kpN {w w' : World} {g B n size pg M} (h : Rm w g B n size pg M) (q : KpN w w') : Rm w' g B n size pg M := h.kp q fun _ _ h => h
theorem Rm.drewN {w : World} {g B n size pg M} (h : Rm w g B n size pg M) (m : Nat) : Rm (w.drewN m) g B n size pg M := h.kpN ((Kp.refl _ _).drewN m)
theorem Rm.mono {w : World} {g B n n' size pg M} (h : Rm w g B n size pg M) (hn : n ≤ n') : Rm w g B n' size pg M := ⟨h.blk, h.map.mono hn, h.pag, h.non, h.byt, h.gB, h.ga, h.inj⟩
theorem Rm.lt {w : World} {g B n size pg M} (h : Rm w g B n size pg M) : ∀ i, memB g B pg i → i < w.heap.size := by
  rintro i (rfl | rfl | ⟨k, hk⟩)
  · exact blk_lt h.blk.blk
  · exact h.map.lt
  · exact blk_lt (h.pag k i hk)
theorem Rm.c0 {w : World} {g B n size pg M} (h : Rm w g B n size pg M) : w.cell? ⟨g, 0, none⟩ = some (.int .u64 (size : Int)) := h.blk.c 0
theorem Rm.c1 {w : World} {g B n size pg M} (h : Rm w g B n size pg M) : w.cell? ⟨g, 1, none⟩ = some (.map (some B)) := h.blk.c 1
theorem Rm.c2 {w : World} {g B n size pg M} (h : Rm w g B n size pg M) : w.cell? ⟨g, 2, none⟩ = some (.pointer none) := h.blk.c 2
set_option maxHeartbeats 8000000 in
set_option maxRecDepth 100000 in
theorem get_m (g B n size : Nat) (pg : Nat → Option Nat) (M : Nat → Nat) (off : Nat) (w : World) (hI : Rm w g B n size pg M) (ho : off < 268435456) :
    Calls Try.prog 61 #[.pointer (some ⟨g, 0, none⟩), .int .u64 ((2147483648 + off : Nat) : Int)] w fun e w' => e = .returned (.int .u8 (M off : Int)) ∧ w' = w := by
  obtain ⟨K, J, rfl, hJ⟩ : ∃ K J, off = K * 4096 + J ∧ J < 4096 := ⟨off / 4096, off % 4096, by omega, by omega⟩
  obtain ⟨at_, hat⟩ : ∃ at_ : Int, ((2147483648 + (K * 4096 + J) : Nat) : Int) = at_ := ⟨_, rfl⟩
  obtain ⟨of_, hof⟩ : ∃ of_ : Int, ((K * 4096 + J : Nat) : Int) = of_ := ⟨_, rfl⟩
  have e0 : IntKind.u64.wrap (at_ - 2147483648) = of_ := by rw [IntKind.wrap_u64]; omega
  have e1 : of_ / 4096 = (K : Int) := by omega
  have e2 : of_ % 4096 = (J : Int) := by omega
  have e1t : of_.tdiv 4096 = (K : Int) := by rw [Int.tdiv_eq_ediv_of_nonneg (by omega)]; exact e1
  have e2t : of_.tmod 4096 = (J : Int) := by rw [Int.tmod_eq_emod_of_nonneg (by omega)]; exact e2
  have eK : IntKind.u64.wrap (K : Int) = (K : Int) := u64_nat K (by omega)
  have eJ : IntKind.u64.wrap (J : Int) = (J : Int) := u64_nat J (by omega)
  have c1 := hI.c1
  rw [hat]
  clear hat
  have j0 : (0 : Int) ≤ (J : Int) := by omega
  have j1 : (J : Int) < 4096 := by omega
  have HK : Aside0 (K < 18446744073709551616) := ⟨by omega⟩
  have hM := Aside0.mk hI
  clear hof ho hJ hI
  cases hp : pg K with
  | none =>
    have HV : Aside0 (M (K * 4096 + J) = 0) := ⟨hM.out.non K hp J (by omega)⟩
    have HP := Aside0.mk hp
    clear hp
    rw [HV.out]
    go_enter Try.func61, Try.ntmps61
    go_wp2_with ((with_reducible refine gate_dst (N := 16) rfl ?_); refine lk_ev rfl _ _ _ 23 85 rfl B n pg K rfl rfl hM.out.map keyed64 Try.underlying23 Try.underlying81 (zeroPP _) HK.out (.tuple #[.pointer none, .bool false]) (by rw [HP.out]) ?_)
    go_ret
    exact ⟨rfl, rfl⟩
  | some b =>
    have cb : w.cell? ⟨b, J, none⟩ = some (.int .u8 ((M (K * 4096 + J) : Nat) : Int)) := (blk_cell (hM.out.pag K b hp) J).trans (pageC_at M K J (by omega))
    have HP := Aside0.mk hp
    clear hp
    go_enter Try.func61, Try.ntmps61
    go_wp2_with ((with_reducible refine gate_dst (N := 16) rfl ?_); refine lk_ev rfl _ _ _ 23 85 rfl B n pg K rfl rfl hM.out.map keyed64 Try.underlying23 Try.underlying81 (zeroPP _) HK.out (.tuple #[.pointer (some ⟨b, 0, none⟩), .bool true]) (by rw [HP.out]) ?_)
    go_ret
    exact ⟨rfl, rfl⟩
end Go.Proofs.Ytlhdildnekllhaa.H
/- A machine's memory (package ram), walked by hand: a byte is written. -/
namespace Go.Proofs.Ytlhdildnekllhaa.H
open Go.RowKit Go.Proofs.YtlhdildnekllhaaW.PrintWords Go.Proofs.YtlhdildnekllhaaW.PrintLast Go.Proofs.Ytlhdildnekllhaa.PAl Go.Proofs.Ytlhdildnekllhaa.Pure Go.Proofs.Ytlhdildnekllhaa.Vw
set_option linter.unusedVariables false
set_option linter.unusedSimpArgs false
open Go.Maps (Keyed)
theorem zPage_at {j : Nat} (h : j < 4096) : zPage[j]? = some (.int .u8 0) := by simp [zPage, h]
theorem putB_same {M : Nat → Nat} {o v : Nat} (h : M o = v) : putB M o v = M := funext fun x => by
  unfold putB; split
  · next e => rw [e, h]
  · rfl
theorem putB_byt {M : Nat → Nat} (h : ∀ o, M o < 256) (o : Nat) {v : Nat} (hv : v < 256) : ∀ x, putB M o v x < 256 := fun x => by
  unfold putB; split
  · exact hv
  · exact h x
/-- Where memory may lie then. -/
def memTo (w : World) (g B : Nat) (pg pg' : Nat → Option Nat) : Prop := ∀ i, memB g B pg' i → memB g B pg i ∨ w.heap.size ≤ i
theorem memTo.refl (w : World) (g B : Nat) (pg : Nat → Option Nat) : memTo w g B pg pg := fun _ h => .inl h
theorem Rm.store {w : World} {g B n size pg M} (h : Rm w g B n size pg M) {K b J v : Nat} (hp : pg K = some b) (hJ : J < 4096) (hv : v < 256) :
    Rm (w.setCell ⟨b, J, none⟩ (.int .u8 (v : Int))) g B n size pg (putB M (K * 4096 + J) v) := by
  have k : Kp w (w.setCell ⟨b, J, none⟩ (.int .u8 (v : Int))) (fun i => i = b) := (Kp.refl w (fun i => i = b)).setCell (p := ⟨b, J, none⟩) (.inl rfl) _
  have hga := h.ga K b hp
  refine ⟨h.blk.kp k (fun e : g = b => hga.1 e.symm), h.map.kp k (fun e : B = b => hga.2 e.symm), fun k' b' hb => ?_, fun k' hk' j hj => ?_, putB_byt h.byt _ hv, h.gB, h.ga, h.inj⟩
  · by_cases e : k' = K
    · subst e
      obtain rfl : b = b' := Option.some.inj (hp.symm.trans hb)
      rw [← pageC_put M k' J v hJ]
      exact blk_set (h.pag k' b hp) J _
    · rw [pageC_other M K k' J v hJ e]
      exact (k.block b' (blk_lt (h.pag k' b' hb)) (fun q : b' = b => e (h.inj k' K b (q ▸ hb) hp))).trans (h.pag k' b' hb)
  · have : ¬ k' * 4096 + j = K * 4096 + J := fun e => by
      have : k' = K := by omega
      rw [this, hp] at hk'; cases hk'
    unfold putB; rw [if_neg this]; exact h.non k' hk' j hj
/-- A new page. -/
theorem Rm.page {w w1 : World} {g B n size pg M} (h : Rm w g B n size pg M) {K q : Nat} (hp : pg K = none) (hq : w1.heap[q]? = some (.cells zPage GT (0, 0))) (hB : PMap Try.prog 23 w1 B (n + 1) (fun j => if j = K then some q else pg j)) (k : Kp w w1 (fun i => i = B)) (hnew : ∀ i, memB g B pg i → q ≠ i) :
    Rm w1 g B (n + 1) size (fun j => if j = K then some q else pg j) M := by
  refine ⟨h.blk.kp k h.gB, hB, fun k' b' hb => ?_, fun k' hk' j hj => ?_, h.byt, h.gB, fun k' b' hb => ?_, fun k1 k2 b' h1 h2 => ?_⟩
  · split at hb
    · next e => subst e; cases hb; rw [← zPage_eq M k' (h.non k' hp)]; exact hq
    · exact (k.block b' (blk_lt (h.pag k' b' hb)) (fun q : b' = B => (h.ga k' b' hb).2 q)).trans (h.pag k' b' hb)
  · split at hk'
    · cases hk'
    · exact h.non k' hk' j hj
  · split at hb
    · cases hb
      exact ⟨hnew g (.inl rfl), hnew B (.inr (.inl rfl))⟩
    · exact h.ga k' b' hb
  · split at h1
    · next e1 =>
      split at h2
      · next e2 => rw [e1, e2]
      · cases h1; exact absurd rfl (hnew _ (.inr (.inr ⟨k2, h2⟩)))
    · split at h2
      · cases h2; exact absurd rfl (hnew _ (.inr (.inr ⟨k1, h1⟩)))
      · exact h.inj k1 k2 b' h1 h2
def setPost (g B n size : Nat) (pg : Nat → Option Nat) (M : Nat → Nat) (off v : Nat) (w : World) (e : Ending) (w' : World) : Prop :=
  e = .returned (.tuple #[]) ∧ ∃ pg', Rm w' g B (n + 1) size pg' (putB M off v) ∧ Kp w w' (memB g B pg) ∧ memTo w g B pg pg'
set_option maxHeartbeats 8000000 in
set_option maxRecDepth 100000 in
theorem set_m (g B n size : Nat) (pg : Nat → Option Nat) (M : Nat → Nat) (off v : Nat) (w : World) (hI : Rm w g B n size pg M) (ho : off < 268435456) (hv : v < 256) (hn : n ≤ 4096) :
    Calls Try.prog 55 #[.pointer (some ⟨g, 0, none⟩), .int .u64 ((2147483648 + off : Nat) : Int), .int .u8 (v : Int)] w (setPost g B n size pg M off v w) := by
  obtain ⟨K, J, rfl, hJ⟩ : ∃ K J, off = K * 4096 + J ∧ J < 4096 := ⟨off / 4096, off % 4096, by omega, by omega⟩
  obtain ⟨at_, hat⟩ : ∃ at_ : Int, ((2147483648 + (K * 4096 + J) : Nat) : Int) = at_ := ⟨_, rfl⟩
  obtain ⟨of_, hof⟩ : ∃ of_ : Int, ((K * 4096 + J : Nat) : Int) = of_ := ⟨_, rfl⟩
  have e0 : IntKind.u64.wrap (at_ - 2147483648) = of_ := by rw [IntKind.wrap_u64]; omega
  have e1 : of_ / 4096 = (K : Int) := by omega
  have e2 : of_ % 4096 = (J : Int) := by omega
  have e1t : of_.tdiv 4096 = (K : Int) := by rw [Int.tdiv_eq_ediv_of_nonneg (by omega)]; exact e1
  have e2t : of_.tmod 4096 = (J : Int) := by rw [Int.tmod_eq_emod_of_nonneg (by omega)]; exact e2
  have eK : IntKind.u64.wrap (K : Int) = (K : Int) := u64_nat K (by omega)
  have eJ : IntKind.u64.wrap (J : Int) = (J : Int) := u64_nat J (by omega)
  have c1 := hI.c1
  rw [hat]
  clear hat
  have j0 : (0 : Int) ≤ (J : Int) := by omega
  have j1 : (J : Int) < 4096 := by omega
  have HK : Aside0 (K < 18446744073709551616) := ⟨by omega⟩
  have HN : Aside0 (n < maxLen) := ⟨by unfold maxLen; omega⟩
  have hM := Aside0.mk hI
  have HJ := Aside0.mk hJ
  have HV := Aside0.mk hv
  have hlt := Aside0.mk (hI.lt)
  clear hof ho hJ hI hv hn
  cases hp : pg K with
  | some b =>
    have cb := blk_cell (hM.out.pag K b hp) J
    rw [pageC_at M K J (by omega)] at cb
    have fb : w.frozen? ⟨b, J, none⟩ = false := blk_frozen (hM.out.pag K b hp) J
    have HP := Aside0.mk hp
    clear hp
    go_enter Try.func55, Try.ntmps55
    go_wp2_with ((with_reducible refine gate_dst (N := 17) rfl ?_); refine lk_ev rfl _ _ _ 23 85 rfl B n pg K rfl rfl hM.out.map keyed64 Try.underlying23 Try.underlying81 (zeroPP _) HK.out (.tuple #[.pointer (some ⟨b, 0, none⟩), .bool true]) (by rw [HP.out]) ?_)
    first | go_end0 | ((try simp only [Exit.inBlock, Exit.then]); refine bodyPost_ret (results_none rfl _ _ _) rfl ?_)
    exact ⟨rfl, pg, (hM.out.store HP.out HJ.out HV.out).mono (by omega), (Kp.refl _ _).setCell (p := ⟨b, J, none⟩) (.inl (.inr (.inr ⟨K, HP.out⟩))) _, memTo.refl _ _ _ _⟩
  | none =>
    have HP := Aside0.mk hp
    have H0 : Aside0 (M (K * 4096 + J) = 0) := ⟨hM.out.non K hp J (by omega)⟩
    clear hp
    by_cases h0 : v = 0
    · subst h0
      go_enter Try.func55, Try.ntmps55
      go_wp2_with ((with_reducible refine gate_dst (N := 17) rfl ?_); refine lk_ev rfl _ _ _ 23 85 rfl B n pg K rfl rfl hM.out.map keyed64 Try.underlying23 Try.underlying81 (zeroPP _) HK.out (.tuple #[.pointer none, .bool false]) (by rw [HP.out]) ?_)
      first | go_end0 | ((try simp only [Exit.inBlock, Exit.then]); refine bodyPost_ret (results_none rfl _ _ _) rfl ?_)
      refine ⟨rfl, pg, ?_, Kp.refl _ _, memTo.refl _ _ _ _⟩
      rw [putB_same H0.out]
      exact hM.out.mono (by omega)
    · have t0 : ((v : Int) == 0) = false := beq_eq_false_iff_ne.2 (by omega)
      clear h0
      go_enter Try.func55, Try.ntmps55
      go_wp2_with (first
        | ((with_reducible refine gate_dst (N := 17) rfl ?_); refine lk_ev rfl _ _ _ 23 85 rfl B n pg K rfl rfl hM.out.map keyed64 Try.underlying23 Try.underlying81 (zeroPP _) HK.out (.tuple #[.pointer none, .bool false]) (by rw [HP.out]) ?_)
        | ((with_reducible refine gate_dst (N := 24) rfl ?_); refine bd_ev rfl rfl zPage buildG ?_)
        | (((with_reducible refine gate_dst (N := 25) rfl ?_); refine bx_ev rfl rfl (N := 25) rfl (zPage) rfl ?_; intro q hg_q w1 hb_q hk_q; have Hg_q := Aside0.mk hg_q; clear hg_q); have hM1 := hM.out.kpN hk_q; have d1 := hM1.c1)
        | (at_mapUpdate; refine up_ev rfl _ _ _ 81 23 85 rfl rfl B n pg K q rfl rfl rfl hM1.map keyed64 Try.underlying23 Try.underlying81 HN.out HK.out ?_; intro w2 hB2 k2; have hqB : q ≠ B := (by have := Hg_q.out; have := hM.out.map.lt; omega); have hq2 := (k2.block q (blk_lt hb_q) hqB).trans hb_q; have hM2 := hM1.page HP.out hq2 hB2 k2 (fun i hi => by have := Hg_q.out; have := hlt.out i hi; omega); have cq : w2.cell? ⟨q, J, none⟩ = some (.int .u8 0) := (blk_cell hq2 J).trans (zPage_at HJ.out); have fq := blk_frozen hq2 J))
      first | go_end0 | ((try simp only [Exit.inBlock, Exit.then]); refine bodyPost_ret (results_none rfl _ _ _) rfl ?_)
      have hqw : w.heap.size ≤ q := by have := Hg_q.out; omega
      refine ⟨rfl, _, hM2.store (b := q) (if_pos rfl) HJ.out HV.out, ?_, ?_⟩
      · exact ((hk_q.mono fun _ _ h => h.elim).then k2 fun i hi (e : i = B) => .inr (.inl e)).setCell (p := ⟨q, J, none⟩) (.inr hqw) _
      · rintro i (e | e | ⟨k, hk⟩)
        · exact .inl (.inl e)
        · exact .inl (.inr (.inl e))
        · have hk' : (if k = K then some q else pg k) = some i := hk
          split at hk'
          · cases hk'; exact .inr hqw
          · exact .inl (.inr (.inr ⟨k, hk'⟩))
end Go.Proofs.Ytlhdildnekllhaa.H
/- A machine's memory (package ram), walked by hand: words of eight bytes are read and written; memory is made. -/
namespace Go.Proofs.Ytlhdildnekllhaa.H
open Go.RowKit Go.Proofs.YtlhdildnekllhaaW.PrintWords Go.Proofs.YtlhdildnekllhaaW.PrintLast Go.Proofs.Ytlhdildnekllhaa.PAl Go.Proofs.Ytlhdildnekllhaa.Pure Go.Proofs.Ytlhdildnekllhaa.Vw
set_option linter.unusedVariables false
set_option linter.unusedSimpArgs false
open Go.Maps (Keyed)
theorem sized8 (w : World) : Calls Try.prog 53 #[.int .i64 8] w fun e w' => e = .returned (.bool true) ∧ ∃ m, w' = w.drewN m :=
  (ram_sized.calls 8 true w (by decide)).mono fun e w' h => ⟨h.1, h.2.out⟩
def hasB (size a n : Nat) : Bool := decide (2147483648 ≤ a ∧ a + n ≤ 2147483648 + size)
set_option maxHeartbeats 8000000 in
set_option maxRecDepth 100000 in
theorem has_m (g B n size : Nat) (pg : Nat → Option Nat) (M : Nat → Nat) (a k : Nat) (w : World) (hI : Rm w g B n size pg M) (ha : U a) (hk : U k) (hs : U size) :
    Calls Try.prog 54 #[.pointer (some ⟨g, 0, none⟩), .int .u64 (a : Int), .int .u64 (k : Int)] w fun e w' => e = .returned (.bool (hasB size a k)) ∧ ∃ m, w' = w.drewN m := by
  have c0 := hI.c0
  have W : Aside0 (∀ W, Calls Try.prog 73 #[.int .u64 (a : Int), .int .u64 (k : Int), .int .u64 2147483648, .int .u64 (size : Int)] W fun e w' => e = .returned (.bool (hasB size a k)) ∧ ∃ m, w' = W.drewN m) := ⟨fun W => (word_Within.calls _ _ _ _ _ W (within_word a k 2147483648 size ha.lt hk.lt (by decide) hs.lt)).mono fun e w' h => ⟨h.1, h.2.out⟩⟩
  go_enter Try.func54, Try.ntmps54
  go_wp2_with (go_at_call 73; refine (W.out _).mono ?_; rintro e w' ⟨rfl, m, rfl⟩)
  go_ret
  exact ⟨rfl, m, rfl⟩
set_option maxHeartbeats 8000000 in
set_option maxRecDepth 100000 in
theorem wrote_m (g B n size : Nat) (pg : Nat → Option Nat) (M : Nat → Nat) (a k : Int) (w : World) (hI : Rm w g B n size pg M) :
    Calls Try.prog 56 #[.pointer (some ⟨g, 0, none⟩), .int .u64 a, .int .u64 k] w fun e w' => e = .returned (.tuple #[]) ∧ w' = w := by
  have c2 := hI.c2
  go_enter Try.func56, Try.ntmps56
  go_wp2
  first | go_end0 | ((try simp only [Exit.inBlock, Exit.then]); refine bodyPost_ret (results_none rfl _ _ _) rfl ?_)
  exact ⟨rfl, rfl⟩
/-- The word of k bytes, the lowest first. -/
def ldN (M : Nat → Nat) (off : Nat) : Nat → Nat
  | 0 => 0
  | k + 1 => ldN M off k + M (off + k) * 256 ^ k
theorem ldN_lt {M : Nat → Nat} (h : ∀ o, M o < 256) (off : Nat) : ∀ k, ldN M off k < 256 ^ k
  | 0 => by simp [ldN]
  | k + 1 => by
    have ih := ldN_lt h off k
    have hb := h (off + k)
    rw [ldN, Nat.pow_succ]
    have : M (off + k) * 256 ^ k ≤ 255 * 256 ^ k := Nat.mul_le_mul_right _ (by omega)
    omega
theorem or_add {x m : Nat} (h : x < 2 ^ m) (v : Nat) : x ||| v * 2 ^ m = x + v * 2 ^ m := by
  rw [Nat.or_comm, Nat.mul_comm, Nat.add_comm]
  exact (Nat.two_pow_add_eq_or_of_lt h v).symm
/-- One byte more of a word that is read. -/
theorem ld_step {M : Nat → Nat} (h : ∀ o, M o < 256) (off k p : Nat) (hk : k < 8) (hp : p = 256 ^ k) : Go.bits .or .u64 ((ldN M off k : Nat) : Int) ((M (off + k) : Int) * (p : Int)) = ((ldN M off (k + 1) : Nat) : Int) := by
  have hl := ldN_lt h off k
  have hb := h (off + k)
  have h8 : 256 ^ (k + 1) ≤ 256 ^ 8 := Nat.pow_le_pow_right (by decide) (by omega)
  have e8 : (256 : Nat) ^ 8 = 18446744073709551616 := by decide
  have hl1 := ldN_lt h off (k + 1)
  have e2 : (256 : Nat) ^ k = 2 ^ (8 * k) := by rw [Nat.pow_mul]
  have hm : M (off + k) * p ≤ ldN M off (k + 1) := by rw [hp, ldN]; omega
  have u1 : U (ldN M off k) := ⟨by rw [ldN] at hl1; omega⟩
  have u2 : U (M (off + k) * p) := ⟨by omega⟩
  rw [show ((M (off + k) : Int) * (p : Int)) = ((M (off + k) * p : Nat) : Int) by simp, or_c u1 u2, hp, e2]
  congr 1
  rw [or_add (by rw [← e2]; exact hl), ldN, e2]
theorem ld_fit {M : Nat → Nat} (h : ∀ o, M o < 256) (off k p : Nat) (hk : k < 8) (hp : p = 256 ^ k) : IntKind.u64.wrap ((M (off + k) : Int) * (p : Int)) = (M (off + k) : Int) * (p : Int) := by
  have hb := h (off + k)
  have h8 : 256 ^ (k + 1) ≤ 256 ^ 8 := Nat.pow_le_pow_right (by decide) (by omega)
  have e8 : (256 : Nat) ^ 8 = 18446744073709551616 := by decide
  have : M (off + k) * p ≤ 255 * p := Nat.mul_le_mul_right _ (by omega)
  rw [Nat.pow_succ, ← hp] at h8
  rw [show ((M (off + k) : Int) * (p : Int)) = ((M (off + k) * p : Nat) : Int) by simp]
  exact u64_nat _ (by omega)
def loadV (M : Nat → Nat) (size a : Nat) : Nat := if hasB size a 8 = true then ldN M (a - 2147483648) 8 else 0
set_option maxHeartbeats 8000000 in
set_option maxRecDepth 100000 in
theorem load_no (g B n size : Nat) (pg : Nat → Option Nat) (M : Nat → Nat) (a : Nat) (w : World) (hI : Rm w g B n size pg M) (ha : U a) (hs : U size) (h : hasB size a 8 = false) :
    Calls Try.prog 33 #[.pointer (some ⟨g, 0, none⟩), .int .u64 (a : Int), .int .i64 8] w fun e w' => e = .returned (.tuple #[.int .u64 0, .bool false]) ∧ ∃ m, w' = w.drewN m := by
  have HA : Aside0 (∀ m, Calls Try.prog 54 #[.pointer (some ⟨g, 0, none⟩), .int .u64 (a : Int), .int .u64 8] (w.drewN m) fun e w' => e = .returned (.bool false) ∧ ∃ m', w' = (w.drewN m).drewN m') := ⟨fun m => by
    have := has_m g B n size pg M a 8 _ (hI.drewN m) ha U.num hs; rw [h] at this; exact this⟩
  clear h
  go_enter Try.func33, Try.ntmps33
  go_wp2_with (first
    | (go_at_call 53; refine (sized8 _).mono ?_; rintro e w' ⟨rfl, m1, rfl⟩)
    | (go_at_call 54; refine (HA.out _).mono ?_; rintro e w' ⟨rfl, m2, rfl⟩))
  go_ret2
  exact ⟨rfl, _, rfl⟩
set_option maxHeartbeats 8000000 in
set_option maxRecDepth 100000 in
theorem load_yes (g B n size : Nat) (pg : Nat → Option Nat) (M : Nat → Nat) (off : Nat) (w : World) (hI : Rm w g B n size pg M) (ho : off + 8 ≤ size) (hs : size ≤ 268435456) :
    Calls Try.prog 33 #[.pointer (some ⟨g, 0, none⟩), .int .u64 ((2147483648 + off : Nat) : Int), .int .i64 8] w fun e w' => e = .returned (.tuple #[.int .u64 ((ldN M off 8 : Nat) : Int), .bool true]) ∧ ∃ m, w' = w.drewN m := by
  have HA : Aside0 (∀ m, Calls Try.prog 54 #[.pointer (some ⟨g, 0, none⟩), .int .u64 ((2147483648 + off : Nat) : Int), .int .u64 8] (w.drewN m) fun e w' => e = .returned (.bool true) ∧ ∃ m', w' = (w.drewN m).drewN m') := ⟨fun m => by
    have := has_m g B n size pg M (2147483648 + off) 8 _ (hI.drewN m) ⟨by omega⟩ U.num ⟨by omega⟩; rw [show hasB size (2147483648 + off) 8 = true from decide_eq_true (by omega)] at this; exact this⟩
  have GE : Aside0 (∀ k m, k < 8 → Calls Try.prog 61 #[.pointer (some ⟨g, 0, none⟩), .int .u64 ((2147483648 + (off + k) : Nat) : Int)] (w.drewN m) fun e w' => e = .returned (.int .u8 (M (off + k) : Int)) ∧ w' = w.drewN m) := ⟨fun k m hk => get_m g B n size pg M (off + k) _ (hI.drewN m) (by omega)⟩
  have HB := Aside0.mk hI.byt
  obtain ⟨at_, hat⟩ : ∃ at_ : Int, ((2147483648 + off : Nat) : Int) = at_ := ⟨_, rfl⟩
  have HW : Aside0 (∀ k : Nat, k < 8 → IntKind.u64.wrap (at_ + (k : Int)) = ((2147483648 + (off + k) : Nat) : Int)) := ⟨fun k hk => by rw [IntKind.wrap_u64]; omega⟩
  rw [hat] at HA
  rw [hat]
  have at0 : 0 ≤ at_ := by omega
  clear hat ho hs hI at0
  go_enter Try.func33, Try.ntmps33
  go_wp2_with (first
    | (go_at_call 53; refine (sized8 _).mono ?_; rintro e w' ⟨rfl, m1, rfl⟩)
    | (go_at_call 54; refine (HA.out _).mono ?_; rintro e w' ⟨rfl, m2, rfl⟩))
  go_loopw [8, 22] (fun x i W => ∃ (k : Nat) (z : Int), z = k ∧ k ≤ 8 ∧ i = .int .i64 z ∧ x = .int .u64 ((ldN M off k : Nat) : Int) ∧ ∃ m, W = w.drewN m) (fun _ i _ => 8 - (intOf i).toNat)
  case atStart => exact ⟨0, 0, rfl, by omega, rfl, rfl, _, rfl⟩
  case round =>
    obtain ⟨k, z, hz, hk, rfl, rfl, m, rfl⟩ := hrel
    have hk8 : k = 8 ∨ k = 0 ∨ k = 1 ∨ k = 2 ∨ k = 3 ∨ k = 4 ∨ k = 5 ∨ k = 6 ∨ k = 7 := by omega
    clear hk
    rcases hk8 with rfl | rfl | rfl | rfl | rfl | rfl | rfl | rfl | rfl
    · obtain rfl : z = 8 := by omega
      clear hz
      go_wp2
      go_ret2
      exact ⟨rfl, m, rfl⟩
    · obtain rfl : z = 0 := by omega
      clear hz
      have w1 : IntKind.u64.wrap (at_ + 0) = ((2147483648 + (off + 0) : Nat) : Int) := HW.out 0 (by decide)
      have w2 : IntKind.u64.wrap ((M (off + 0) : Int) * 1) = (M (off + 0) : Int) * 1 := ld_fit HB.out off 0 1 (by decide) (by decide)
      have w3 : Go.bits .or .u64 ((ldN M off 0 : Nat) : Int) ((M (off + 0) : Int) * 1) = ((ldN M off 1 : Nat) : Int) := ld_step HB.out off 0 1 (by decide) (by decide)
      have G := Aside0.mk (GE.out 0 m (by decide))
      obtain ⟨a1, ha1⟩ : ∃ a1 : Int, ((2147483648 + (off + 0) : Nat) : Int) = a1 := ⟨_, rfl⟩
      obtain ⟨v1, hv1⟩ : ∃ v1 : Int, (M (off + 0) : Int) = v1 := ⟨_, rfl⟩
      have hv0 : 0 ≤ v1 := by omega
      have hv2 : v1 ≤ 255 := by have := HB.out (off + 0); omega
      rw [ha1] at w1 G
      rw [hv1] at w2 w3 G
      obtain ⟨x0, hx0⟩ : ∃ x0, ldN M off 0 = x0 := ⟨_, rfl⟩
      obtain ⟨x1, hx1⟩ : ∃ x1, ldN M off 1 = x1 := ⟨_, rfl⟩
      have HX1 := Aside0.mk hx1
      rw [hx0, hx1] at w3
      rw [hx0]
      clear ha1 hv1 hx0 hx1
      simp only [Int.add_zero] at w1
      simp only [Int.mul_one] at w2 w3
      go_wp2_with (go_at_call 61; (with_reducible refine G.out.mono ?_); rintro e w' ⟨rfl, rfl⟩)
      go_roundw
      case rel => exact ⟨1, 1, rfl, by decide, by go_num, by rw [HX1.out], m, rfl⟩
      case measure => simp [intOf]
    · obtain rfl : z = 1 := by omega
      clear hz
      have w1 : IntKind.u64.wrap (at_ + 1) = ((2147483648 + (off + 1) : Nat) : Int) := HW.out 1 (by decide)
      have w2 : IntKind.u64.wrap ((M (off + 1) : Int) * 256) = (M (off + 1) : Int) * 256 := ld_fit HB.out off 1 256 (by decide) (by decide)
      have w3 : Go.bits .or .u64 ((ldN M off 1 : Nat) : Int) ((M (off + 1) : Int) * 256) = ((ldN M off 2 : Nat) : Int) := ld_step HB.out off 1 256 (by decide) (by decide)
      have G := Aside0.mk (GE.out 1 m (by decide))
      obtain ⟨a1, ha1⟩ : ∃ a1 : Int, ((2147483648 + (off + 1) : Nat) : Int) = a1 := ⟨_, rfl⟩
      obtain ⟨v1, hv1⟩ : ∃ v1 : Int, (M (off + 1) : Int) = v1 := ⟨_, rfl⟩
      have hv0 : 0 ≤ v1 := by omega
      have hv2 : v1 ≤ 255 := by have := HB.out (off + 1); omega
      rw [ha1] at w1 G
      rw [hv1] at w2 w3 G
      obtain ⟨x0, hx0⟩ : ∃ x0, ldN M off 1 = x0 := ⟨_, rfl⟩
      obtain ⟨x1, hx1⟩ : ∃ x1, ldN M off 2 = x1 := ⟨_, rfl⟩
      have HX1 := Aside0.mk hx1
      rw [hx0, hx1] at w3
      rw [hx0]
      clear ha1 hv1 hx0 hx1
      go_wp2_with (go_at_call 61; (with_reducible refine G.out.mono ?_); rintro e w' ⟨rfl, rfl⟩)
      go_roundw
      case rel => exact ⟨2, 2, rfl, by decide, by go_num, by rw [HX1.out], m, rfl⟩
      case measure => simp [intOf]
    · obtain rfl : z = 2 := by omega
      clear hz
      have w1 : IntKind.u64.wrap (at_ + 2) = ((2147483648 + (off + 2) : Nat) : Int) := HW.out 2 (by decide)
      have w2 : IntKind.u64.wrap ((M (off + 2) : Int) * 65536) = (M (off + 2) : Int) * 65536 := ld_fit HB.out off 2 65536 (by decide) (by decide)
      have w3 : Go.bits .or .u64 ((ldN M off 2 : Nat) : Int) ((M (off + 2) : Int) * 65536) = ((ldN M off 3 : Nat) : Int) := ld_step HB.out off 2 65536 (by decide) (by decide)
      have G := Aside0.mk (GE.out 2 m (by decide))
      obtain ⟨a1, ha1⟩ : ∃ a1 : Int, ((2147483648 + (off + 2) : Nat) : Int) = a1 := ⟨_, rfl⟩
      obtain ⟨v1, hv1⟩ : ∃ v1 : Int, (M (off + 2) : Int) = v1 := ⟨_, rfl⟩
      have hv0 : 0 ≤ v1 := by omega
      have hv2 : v1 ≤ 255 := by have := HB.out (off + 2); omega
      rw [ha1] at w1 G
      rw [hv1] at w2 w3 G
      obtain ⟨x0, hx0⟩ : ∃ x0, ldN M off 2 = x0 := ⟨_, rfl⟩
      obtain ⟨x1, hx1⟩ : ∃ x1, ldN M off 3 = x1 := ⟨_, rfl⟩
      have HX1 := Aside0.mk hx1
      rw [hx0, hx1] at w3
      rw [hx0]
      clear ha1 hv1 hx0 hx1
      go_wp2_with (go_at_call 61; (with_reducible refine G.out.mono ?_); rintro e w' ⟨rfl, rfl⟩)
      go_roundw
      case rel => exact ⟨3, 3, rfl, by decide, by go_num, by rw [HX1.out], m, rfl⟩
      case measure => simp [intOf]
    · obtain rfl : z = 3 := by omega
      clear hz
      have w1 : IntKind.u64.wrap (at_ + 3) = ((2147483648 + (off + 3) : Nat) : Int) := HW.out 3 (by decide)
      have w2 : IntKind.u64.wrap ((M (off + 3) : Int) * 16777216) = (M (off + 3) : Int) * 16777216 := ld_fit HB.out off 3 16777216 (by decide) (by decide)
      have w3 : Go.bits .or .u64 ((ldN M off 3 : Nat) : Int) ((M (off + 3) : Int) * 16777216) = ((ldN M off 4 : Nat) : Int) := ld_step HB.out off 3 16777216 (by decide) (by decide)
      have G := Aside0.mk (GE.out 3 m (by decide))
      obtain ⟨a1, ha1⟩ : ∃ a1 : Int, ((2147483648 + (off + 3) : Nat) : Int) = a1 := ⟨_, rfl⟩
      obtain ⟨v1, hv1⟩ : ∃ v1 : Int, (M (off + 3) : Int) = v1 := ⟨_, rfl⟩
      have hv0 : 0 ≤ v1 := by omega
      have hv2 : v1 ≤ 255 := by have := HB.out (off + 3); omega
      rw [ha1] at w1 G
      rw [hv1] at w2 w3 G
      obtain ⟨x0, hx0⟩ : ∃ x0, ldN M off 3 = x0 := ⟨_, rfl⟩
      obtain ⟨x1, hx1⟩ : ∃ x1, ldN M off 4 = x1 := ⟨_, rfl⟩
      have HX1 := Aside0.mk hx1
      rw [hx0, hx1] at w3
      rw [hx0]
      clear ha1 hv1 hx0 hx1
      go_wp2_with (go_at_call 61; (with_reducible refine G.out.mono ?_); rintro e w' ⟨rfl, rfl⟩)
      go_roundw
      case rel => exact ⟨4, 4, rfl, by decide, by go_num, by rw [HX1.out], m, rfl⟩
      case measure => simp [intOf]
    · obtain rfl : z = 4 := by omega
      clear hz
      have w1 : IntKind.u64.wrap (at_ + 4) = ((2147483648 + (off + 4) : Nat) : Int) := HW.out 4 (by decide)
      have w2 : IntKind.u64.wrap ((M (off + 4) : Int) * 4294967296) = (M (off + 4) : Int) * 4294967296 := ld_fit HB.out off 4 4294967296 (by decide) (by decide)
      have w3 : Go.bits .or .u64 ((ldN M off 4 : Nat) : Int) ((M (off + 4) : Int) * 4294967296) = ((ldN M off 5 : Nat) : Int) := ld_step HB.out off 4 4294967296 (by decide) (by decide)
      have G := Aside0.mk (GE.out 4 m (by decide))
      obtain ⟨a1, ha1⟩ : ∃ a1 : Int, ((2147483648 + (off + 4) : Nat) : Int) = a1 := ⟨_, rfl⟩
      obtain ⟨v1, hv1⟩ : ∃ v1 : Int, (M (off + 4) : Int) = v1 := ⟨_, rfl⟩
      have hv0 : 0 ≤ v1 := by omega
      have hv2 : v1 ≤ 255 := by have := HB.out (off + 4); omega
      rw [ha1] at w1 G
      rw [hv1] at w2 w3 G
      obtain ⟨x0, hx0⟩ : ∃ x0, ldN M off 4 = x0 := ⟨_, rfl⟩
      obtain ⟨x1, hx1⟩ : ∃ x1, ldN M off 5 = x1 := ⟨_, rfl⟩
      have HX1 := Aside0.mk hx1
      rw [hx0, hx1] at w3
      rw [hx0]
      clear ha1 hv1 hx0 hx1
      go_wp2_with (go_at_call 61; (with_reducible refine G.out.mono ?_); rintro e w' ⟨rfl, rfl⟩)
      go_roundw
      case rel => exact ⟨5, 5, rfl, by decide, by go_num, by rw [HX1.out], m, rfl⟩
      case measure => simp [intOf]
    · obtain rfl : z = 5 := by omega
      clear hz
      have w1 : IntKind.u64.wrap (at_ + 5) = ((2147483648 + (off + 5) : Nat) : Int) := HW.out 5 (by decide)
      have w2 : IntKind.u64.wrap ((M (off + 5) : Int) * 1099511627776) = (M (off + 5) : Int) * 1099511627776 := ld_fit HB.out off 5 1099511627776 (by decide) (by decide)
      have w3 : Go.bits .or .u64 ((ldN M off 5 : Nat) : Int) ((M (off + 5) : Int) * 1099511627776) = ((ldN M off 6 : Nat) : Int) := ld_step HB.out off 5 1099511627776 (by decide) (by decide)
      have G := Aside0.mk (GE.out 5 m (by decide))
      obtain ⟨a1, ha1⟩ : ∃ a1 : Int, ((2147483648 + (off + 5) : Nat) : Int) = a1 := ⟨_, rfl⟩
      obtain ⟨v1, hv1⟩ : ∃ v1 : Int, (M (off + 5) : Int) = v1 := ⟨_, rfl⟩
      have hv0 : 0 ≤ v1 := by omega
      have hv2 : v1 ≤ 255 := by have := HB.out (off + 5); omega
      rw [ha1] at w1 G
      rw [hv1] at w2 w3 G
      obtain ⟨x0, hx0⟩ : ∃ x0, ldN M off 5 = x0 := ⟨_, rfl⟩
      obtain ⟨x1, hx1⟩ : ∃ x1, ldN M off 6 = x1 := ⟨_, rfl⟩
      have HX1 := Aside0.mk hx1
      rw [hx0, hx1] at w3
      rw [hx0]
      clear ha1 hv1 hx0 hx1
      go_wp2_with (go_at_call 61; (with_reducible refine G.out.mono ?_); rintro e w' ⟨rfl, rfl⟩)
      go_roundw
      case rel => exact ⟨6, 6, rfl, by decide, by go_num, by rw [HX1.out], m, rfl⟩
      case measure => simp [intOf]
    · obtain rfl : z = 6 := by omega
      clear hz
      have w1 : IntKind.u64.wrap (at_ + 6) = ((2147483648 + (off + 6) : Nat) : Int) := HW.out 6 (by decide)
      have w2 : IntKind.u64.wrap ((M (off + 6) : Int) * 281474976710656) = (M (off + 6) : Int) * 281474976710656 := ld_fit HB.out off 6 281474976710656 (by decide) (by decide)
      have w3 : Go.bits .or .u64 ((ldN M off 6 : Nat) : Int) ((M (off + 6) : Int) * 281474976710656) = ((ldN M off 7 : Nat) : Int) := ld_step HB.out off 6 281474976710656 (by decide) (by decide)
      have G := Aside0.mk (GE.out 6 m (by decide))
      obtain ⟨a1, ha1⟩ : ∃ a1 : Int, ((2147483648 + (off + 6) : Nat) : Int) = a1 := ⟨_, rfl⟩
      obtain ⟨v1, hv1⟩ : ∃ v1 : Int, (M (off + 6) : Int) = v1 := ⟨_, rfl⟩
      have hv0 : 0 ≤ v1 := by omega
      have hv2 : v1 ≤ 255 := by have := HB.out (off + 6); omega
      rw [ha1] at w1 G
      rw [hv1] at w2 w3 G
      obtain ⟨x0, hx0⟩ : ∃ x0, ldN M off 6 = x0 := ⟨_, rfl⟩
      obtain ⟨x1, hx1⟩ : ∃ x1, ldN M off 7 = x1 := ⟨_, rfl⟩
      have HX1 := Aside0.mk hx1
      rw [hx0, hx1] at w3
      rw [hx0]
      clear ha1 hv1 hx0 hx1
      go_wp2_with (go_at_call 61; (with_reducible refine G.out.mono ?_); rintro e w' ⟨rfl, rfl⟩)
      go_roundw
      case rel => exact ⟨7, 7, rfl, by decide, by go_num, by rw [HX1.out], m, rfl⟩
      case measure => simp [intOf]
    · obtain rfl : z = 7 := by omega
      clear hz
      have w1 : IntKind.u64.wrap (at_ + 7) = ((2147483648 + (off + 7) : Nat) : Int) := HW.out 7 (by decide)
      have w2 : IntKind.u64.wrap ((M (off + 7) : Int) * 72057594037927936) = (M (off + 7) : Int) * 72057594037927936 := ld_fit HB.out off 7 72057594037927936 (by decide) (by decide)
      have w3 : Go.bits .or .u64 ((ldN M off 7 : Nat) : Int) ((M (off + 7) : Int) * 72057594037927936) = ((ldN M off 8 : Nat) : Int) := ld_step HB.out off 7 72057594037927936 (by decide) (by decide)
      have G := Aside0.mk (GE.out 7 m (by decide))
      obtain ⟨a1, ha1⟩ : ∃ a1 : Int, ((2147483648 + (off + 7) : Nat) : Int) = a1 := ⟨_, rfl⟩
      obtain ⟨v1, hv1⟩ : ∃ v1 : Int, (M (off + 7) : Int) = v1 := ⟨_, rfl⟩
      have hv0 : 0 ≤ v1 := by omega
      have hv2 : v1 ≤ 255 := by have := HB.out (off + 7); omega
      rw [ha1] at w1 G
      rw [hv1] at w2 w3 G
      obtain ⟨x0, hx0⟩ : ∃ x0, ldN M off 7 = x0 := ⟨_, rfl⟩
      obtain ⟨x1, hx1⟩ : ∃ x1, ldN M off 8 = x1 := ⟨_, rfl⟩
      have HX1 := Aside0.mk hx1
      rw [hx0, hx1] at w3
      rw [hx0]
      clear ha1 hv1 hx0 hx1
      go_wp2_with (go_at_call 61; (with_reducible refine G.out.mono ?_); rintro e w' ⟨rfl, rfl⟩)
      go_roundw
      case rel => exact ⟨8, 8, rfl, by decide, by go_num, by rw [HX1.out], m, rfl⟩
      case measure => simp [intOf]
end Go.Proofs.Ytlhdildnekllhaa.H
/- A machine's memory (package ram), walked by hand: a word of eight bytes is written; memory is made. -/
namespace Go.Proofs.Ytlhdildnekllhaa.H
open Go.RowKit Go.Proofs.YtlhdildnekllhaaW.PrintWords Go.Proofs.YtlhdildnekllhaaW.PrintLast Go.Proofs.Ytlhdildnekllhaa.PAl Go.Proofs.Ytlhdildnekllhaa.Pure Go.Proofs.Ytlhdildnekllhaa.Vw
set_option linter.unusedVariables false
set_option linter.unusedSimpArgs false
open Go.Maps (Keyed)
/-- Memory with the first k bytes of x from off on. -/
def stN (M : Nat → Nat) (off x : Nat) : Nat → Nat → Nat
  | 0 => M
  | k + 1 => putB (stN M off x k) (off + k) (x / 256 ^ k % 256)
def stPost (g B n size : Nat) (pg : Nat → Option Nat) (M : Nat → Nat) (w w' : World) : Prop := ∃ pg', Rm w' g B n size pg' M ∧ Kp w w' (memB g B pg) ∧ memTo w g B pg pg'
theorem stPost.refl {g B n size : Nat} {pg : Nat → Option Nat} {M : Nat → Nat} {w : World} (h : Rm w g B n size pg M) : stPost g B n size pg M w w := ⟨pg, h, Kp.refl _ _, memTo.refl _ _ _ _⟩
set_option maxHeartbeats 8000000 in
set_option maxRecDepth 100000 in
theorem store_no (g B n size : Nat) (pg : Nat → Option Nat) (M : Nat → Nat) (a x : Nat) (w : World) (hI : Rm w g B n size pg M) (ha : U a) (hs : U size) (h : hasB size a 8 = false) :
    Calls Try.prog 30 #[.pointer (some ⟨g, 0, none⟩), .int .u64 (a : Int), .int .i64 8, .int .u64 (x : Int)] w fun e w' => e = .returned (.bool false) ∧ ∃ m, w' = w.drewN m := by
  have HA : Aside0 (∀ m, Calls Try.prog 54 #[.pointer (some ⟨g, 0, none⟩), .int .u64 (a : Int), .int .u64 8] (w.drewN m) fun e w' => e = .returned (.bool false) ∧ ∃ m', w' = (w.drewN m).drewN m') := ⟨fun m => by
    have := has_m g B n size pg M a 8 _ (hI.drewN m) ha U.num hs; rw [h] at this; exact this⟩
  clear h
  go_enter Try.func30, Try.ntmps30
  go_wp2_with (first
    | (go_at_call 53; refine (sized8 _).mono ?_; rintro e w' ⟨rfl, m1, rfl⟩)
    | (go_at_call 54; refine (HA.out _).mono ?_; rintro e w' ⟨rfl, m2, rfl⟩))
  go_ret
  exact ⟨rfl, _, rfl⟩
set_option maxHeartbeats 8000000 in
set_option maxRecDepth 100000 in
theorem store_yes (g B n size : Nat) (pg : Nat → Option Nat) (M : Nat → Nat) (off x : Nat) (w : World) (hI : Rm w g B n size pg M) (ho : off + 8 ≤ size) (hs : size ≤ 268435456) (hn : n ≤ 4000) (hx : U x) :
    Calls Try.prog 30 #[.pointer (some ⟨g, 0, none⟩), .int .u64 ((2147483648 + off : Nat) : Int), .int .i64 8, .int .u64 (x : Int)] w fun e w' => e = .returned (.bool true) ∧ stPost g B (n + 8) size pg (stN M off x 8) w w' := by
  have HA : Aside0 (∀ m, Calls Try.prog 54 #[.pointer (some ⟨g, 0, none⟩), .int .u64 ((2147483648 + off : Nat) : Int), .int .u64 8] (w.drewN m) fun e w' => e = .returned (.bool true) ∧ ∃ m', w' = (w.drewN m).drewN m') := ⟨fun m => by
    have := has_m g B n size pg M (2147483648 + off) 8 _ (hI.drewN m) ⟨by omega⟩ U.num ⟨by omega⟩; rw [show hasB size (2147483648 + off) 8 = true from decide_eq_true (by omega)] at this; exact this⟩
  have GE : Aside0 (∀ k pg' M' W, k < 8 → Rm W g B (n + k) size pg' M' → Calls Try.prog 55 #[.pointer (some ⟨g, 0, none⟩), .int .u64 ((2147483648 + (off + k) : Nat) : Int), .int .u8 ((x / 256 ^ k % 256 : Nat) : Int)] W (setPost g B (n + k) size pg' M' (off + k) (x / 256 ^ k % 256) W)) := ⟨fun k pg' M' W hk h => set_m g B (n + k) size pg' M' (off + k) _ W h (by omega) (Nat.mod_lt _ (by decide)) (by omega)⟩
  obtain ⟨at_, hat⟩ : ∃ at_ : Int, ((2147483648 + off : Nat) : Int) = at_ := ⟨_, rfl⟩
  have HW : Aside0 (∀ k : Nat, k < 8 → IntKind.u64.wrap (at_ + (k : Int)) = ((2147483648 + (off + k) : Nat) : Int)) := ⟨fun k hk => by rw [IntKind.wrap_u64]; omega⟩
  have HX : Aside0 (∀ p : Nat, IntKind.u8.wrap ((x : Int) / (p : Int)) = ((x / p % 256 : Nat) : Int)) := ⟨fun p => by
    rw [show ((x : Int) / (p : Int)) = ((x / p : Nat) : Int) by simp]; rw [IntKind.wrap_u8]; omega⟩
  have HI := Aside0.mk hI
  rw [hat] at HA
  rw [hat]
  clear hat ho hs hI hn hx
  go_enter Try.func30, Try.ntmps30
  go_wp2_with (first
    | (go_at_call 53; refine (sized8 _).mono ?_; rintro e w' ⟨rfl, m1, rfl⟩)
    | (go_at_call 54; refine (HA.out _).mono ?_; rintro e w' ⟨rfl, m2, rfl⟩))
  go_loopw [22] (fun i W => ∃ (k : Nat) (z : Int), z = k ∧ k ≤ 8 ∧ i = .int .i64 z ∧ stPost g B (n + k) size pg (stN M off x k) w W) (fun i _ => 8 - (intOf i).toNat)
  case atStart => exact ⟨0, 0, rfl, by omega, rfl, pg, HI.out.drewN _, (Kp.refl _ _).drewN _, memTo.refl _ _ _ _⟩
  case round =>
    obtain ⟨k, z, hz, hk, rfl, pg', hR, hK, hT⟩ := hrel
    have hk8 : k = 8 ∨ k = 0 ∨ k = 1 ∨ k = 2 ∨ k = 3 ∨ k = 4 ∨ k = 5 ∨ k = 6 ∨ k = 7 := by omega
    clear hk
    rcases hk8 with rfl | rfl | rfl | rfl | rfl | rfl | rfl | rfl | rfl
    · obtain rfl : z = 8 := by omega
      clear hz
      go_wp2_with (go_at_call 56; refine (wrote_m g B _ size _ _ _ _ _ hR).mono ?_; rintro e w' ⟨rfl, rfl⟩)
      go_ret
      exact ⟨rfl, pg', hR, hK, hT⟩
    · obtain rfl : z = 0 := by omega
      clear hz
      have w1 : IntKind.u64.wrap (at_ + 0) = ((2147483648 + (off + 0) : Nat) : Int) := HW.out 0 (by decide)
      have w2 : IntKind.u8.wrap ((x : Int) / 1) = ((x / 1 % 256 : Nat) : Int) := HX.out 1
      have G := Aside0.mk (GE.out 0 pg' _ _ (by decide) hR)
      rw [show (256 : Nat) ^ 0 = 1 from by decide] at G
      have HS : Aside0 (stN M off x 1 = putB (stN M off x 0) (off + 0) (x / 1 % 256)) := ⟨rfl⟩
      obtain ⟨a1, ha1⟩ : ∃ a1 : Int, ((2147483648 + (off + 0) : Nat) : Int) = a1 := ⟨_, rfl⟩
      obtain ⟨b1, hb1⟩ : ∃ b1 : Nat, x / 1 % 256 = b1 := ⟨_, rfl⟩
      rw [ha1] at w1 G
      rw [hb1] at w2 HS G
      clear ha1 hb1
      simp only [Int.add_zero] at w1
      simp only [Int.ediv_one, Nat.div_one] at w2
      go_wp2_with (go_at_call 55; (with_reducible refine G.out.mono ?_); rintro e w2' ⟨rfl, pg2, hR2, hK2, hT2⟩)
      have REL : stPost g B (n + 1) size pg (stN M off x 1) w w2' := by
        rw [HS.out]
        refine ⟨pg2, hR2, hK.then hK2 fun i hi h => ?_, fun i h => ?_⟩
        · rcases hT i h with h | h
          · exact h
          · omega
        · rcases hT2 i h with h | h
          · exact hT i h
          · exact .inr (Nat.le_trans hK.size h)
      go_roundw
      case rel => exact ⟨1, 1, rfl, by decide, by go_num, REL⟩
      case measure => simp [intOf]
    · obtain rfl : z = 1 := by omega
      clear hz
      have w1 : IntKind.u64.wrap (at_ + 1) = ((2147483648 + (off + 1) : Nat) : Int) := HW.out 1 (by decide)
      have w2 : IntKind.u8.wrap ((x : Int) / 256) = ((x / 256 % 256 : Nat) : Int) := HX.out 256
      have G := Aside0.mk (GE.out 1 pg' _ _ (by decide) hR)
      rw [show (256 : Nat) ^ 1 = 256 from by decide] at G
      have HS : Aside0 (stN M off x 2 = putB (stN M off x 1) (off + 1) (x / 256 % 256)) := ⟨rfl⟩
      obtain ⟨a1, ha1⟩ : ∃ a1 : Int, ((2147483648 + (off + 1) : Nat) : Int) = a1 := ⟨_, rfl⟩
      obtain ⟨b1, hb1⟩ : ∃ b1 : Nat, x / 256 % 256 = b1 := ⟨_, rfl⟩
      rw [ha1] at w1 G
      rw [hb1] at w2 HS G
      clear ha1 hb1
      go_wp2_with (go_at_call 55; (with_reducible refine G.out.mono ?_); rintro e w2' ⟨rfl, pg2, hR2, hK2, hT2⟩)
      have REL : stPost g B (n + 2) size pg (stN M off x 2) w w2' := by
        rw [HS.out]
        refine ⟨pg2, hR2, hK.then hK2 fun i hi h => ?_, fun i h => ?_⟩
        · rcases hT i h with h | h
          · exact h
          · omega
        · rcases hT2 i h with h | h
          · exact hT i h
          · exact .inr (Nat.le_trans hK.size h)
      go_roundw
      case rel => exact ⟨2, 2, rfl, by decide, by go_num, REL⟩
      case measure => simp [intOf]
    · obtain rfl : z = 2 := by omega
      clear hz
      have w1 : IntKind.u64.wrap (at_ + 2) = ((2147483648 + (off + 2) : Nat) : Int) := HW.out 2 (by decide)
      have w2 : IntKind.u8.wrap ((x : Int) / 65536) = ((x / 65536 % 256 : Nat) : Int) := HX.out 65536
      have G := Aside0.mk (GE.out 2 pg' _ _ (by decide) hR)
      rw [show (256 : Nat) ^ 2 = 65536 from by decide] at G
      have HS : Aside0 (stN M off x 3 = putB (stN M off x 2) (off + 2) (x / 65536 % 256)) := ⟨rfl⟩
      obtain ⟨a1, ha1⟩ : ∃ a1 : Int, ((2147483648 + (off + 2) : Nat) : Int) = a1 := ⟨_, rfl⟩
      obtain ⟨b1, hb1⟩ : ∃ b1 : Nat, x / 65536 % 256 = b1 := ⟨_, rfl⟩
      rw [ha1] at w1 G
      rw [hb1] at w2 HS G
      clear ha1 hb1
      go_wp2_with (go_at_call 55; (with_reducible refine G.out.mono ?_); rintro e w2' ⟨rfl, pg2, hR2, hK2, hT2⟩)
      have REL : stPost g B (n + 3) size pg (stN M off x 3) w w2' := by
        rw [HS.out]
        refine ⟨pg2, hR2, hK.then hK2 fun i hi h => ?_, fun i h => ?_⟩
        · rcases hT i h with h | h
          · exact h
          · omega
        · rcases hT2 i h with h | h
          · exact hT i h
          · exact .inr (Nat.le_trans hK.size h)
      go_roundw
      case rel => exact ⟨3, 3, rfl, by decide, by go_num, REL⟩
      case measure => simp [intOf]
    · obtain rfl : z = 3 := by omega
      clear hz
      have w1 : IntKind.u64.wrap (at_ + 3) = ((2147483648 + (off + 3) : Nat) : Int) := HW.out 3 (by decide)
      have w2 : IntKind.u8.wrap ((x : Int) / 16777216) = ((x / 16777216 % 256 : Nat) : Int) := HX.out 16777216
      have G := Aside0.mk (GE.out 3 pg' _ _ (by decide) hR)
      rw [show (256 : Nat) ^ 3 = 16777216 from by decide] at G
      have HS : Aside0 (stN M off x 4 = putB (stN M off x 3) (off + 3) (x / 16777216 % 256)) := ⟨rfl⟩
      obtain ⟨a1, ha1⟩ : ∃ a1 : Int, ((2147483648 + (off + 3) : Nat) : Int) = a1 := ⟨_, rfl⟩
      obtain ⟨b1, hb1⟩ : ∃ b1 : Nat, x / 16777216 % 256 = b1 := ⟨_, rfl⟩
      rw [ha1] at w1 G
      rw [hb1] at w2 HS G
      clear ha1 hb1
      go_wp2_with (go_at_call 55; (with_reducible refine G.out.mono ?_); rintro e w2' ⟨rfl, pg2, hR2, hK2, hT2⟩)
      have REL : stPost g B (n + 4) size pg (stN M off x 4) w w2' := by
        rw [HS.out]
        refine ⟨pg2, hR2, hK.then hK2 fun i hi h => ?_, fun i h => ?_⟩
        · rcases hT i h with h | h
          · exact h
          · omega
        · rcases hT2 i h with h | h
          · exact hT i h
          · exact .inr (Nat.le_trans hK.size h)
      go_roundw
      case rel => exact ⟨4, 4, rfl, by decide, by go_num, REL⟩
      case measure => simp [intOf]
    · obtain rfl : z = 4 := by omega
      clear hz
      have w1 : IntKind.u64.wrap (at_ + 4) = ((2147483648 + (off + 4) : Nat) : Int) := HW.out 4 (by decide)
      have w2 : IntKind.u8.wrap ((x : Int) / 4294967296) = ((x / 4294967296 % 256 : Nat) : Int) := HX.out 4294967296
      have G := Aside0.mk (GE.out 4 pg' _ _ (by decide) hR)
      rw [show (256 : Nat) ^ 4 = 4294967296 from by decide] at G
      have HS : Aside0 (stN M off x 5 = putB (stN M off x 4) (off + 4) (x / 4294967296 % 256)) := ⟨rfl⟩
      obtain ⟨a1, ha1⟩ : ∃ a1 : Int, ((2147483648 + (off + 4) : Nat) : Int) = a1 := ⟨_, rfl⟩
      obtain ⟨b1, hb1⟩ : ∃ b1 : Nat, x / 4294967296 % 256 = b1 := ⟨_, rfl⟩
      rw [ha1] at w1 G
      rw [hb1] at w2 HS G
      clear ha1 hb1
      go_wp2_with (go_at_call 55; (with_reducible refine G.out.mono ?_); rintro e w2' ⟨rfl, pg2, hR2, hK2, hT2⟩)
      have REL : stPost g B (n + 5) size pg (stN M off x 5) w w2' := by
        rw [HS.out]
        refine ⟨pg2, hR2, hK.then hK2 fun i hi h => ?_, fun i h => ?_⟩
        · rcases hT i h with h | h
          · exact h
          · omega
        · rcases hT2 i h with h | h
          · exact hT i h
          · exact .inr (Nat.le_trans hK.size h)
      go_roundw
      case rel => exact ⟨5, 5, rfl, by decide, by go_num, REL⟩
      case measure => simp [intOf]
    · obtain rfl : z = 5 := by omega
      clear hz
      have w1 : IntKind.u64.wrap (at_ + 5) = ((2147483648 + (off + 5) : Nat) : Int) := HW.out 5 (by decide)
      have w2 : IntKind.u8.wrap ((x : Int) / 1099511627776) = ((x / 1099511627776 % 256 : Nat) : Int) := HX.out 1099511627776
      have G := Aside0.mk (GE.out 5 pg' _ _ (by decide) hR)
      rw [show (256 : Nat) ^ 5 = 1099511627776 from by decide] at G
      have HS : Aside0 (stN M off x 6 = putB (stN M off x 5) (off + 5) (x / 1099511627776 % 256)) := ⟨rfl⟩
      obtain ⟨a1, ha1⟩ : ∃ a1 : Int, ((2147483648 + (off + 5) : Nat) : Int) = a1 := ⟨_, rfl⟩
      obtain ⟨b1, hb1⟩ : ∃ b1 : Nat, x / 1099511627776 % 256 = b1 := ⟨_, rfl⟩
      rw [ha1] at w1 G
      rw [hb1] at w2 HS G
      clear ha1 hb1
      go_wp2_with (go_at_call 55; (with_reducible refine G.out.mono ?_); rintro e w2' ⟨rfl, pg2, hR2, hK2, hT2⟩)
      have REL : stPost g B (n + 6) size pg (stN M off x 6) w w2' := by
        rw [HS.out]
        refine ⟨pg2, hR2, hK.then hK2 fun i hi h => ?_, fun i h => ?_⟩
        · rcases hT i h with h | h
          · exact h
          · omega
        · rcases hT2 i h with h | h
          · exact hT i h
          · exact .inr (Nat.le_trans hK.size h)
      go_roundw
      case rel => exact ⟨6, 6, rfl, by decide, by go_num, REL⟩
      case measure => simp [intOf]
    · obtain rfl : z = 6 := by omega
      clear hz
      have w1 : IntKind.u64.wrap (at_ + 6) = ((2147483648 + (off + 6) : Nat) : Int) := HW.out 6 (by decide)
      have w2 : IntKind.u8.wrap ((x : Int) / 281474976710656) = ((x / 281474976710656 % 256 : Nat) : Int) := HX.out 281474976710656
      have G := Aside0.mk (GE.out 6 pg' _ _ (by decide) hR)
      rw [show (256 : Nat) ^ 6 = 281474976710656 from by decide] at G
      have HS : Aside0 (stN M off x 7 = putB (stN M off x 6) (off + 6) (x / 281474976710656 % 256)) := ⟨rfl⟩
      obtain ⟨a1, ha1⟩ : ∃ a1 : Int, ((2147483648 + (off + 6) : Nat) : Int) = a1 := ⟨_, rfl⟩
      obtain ⟨b1, hb1⟩ : ∃ b1 : Nat, x / 281474976710656 % 256 = b1 := ⟨_, rfl⟩
      rw [ha1] at w1 G
      rw [hb1] at w2 HS G
      clear ha1 hb1
      go_wp2_with (go_at_call 55; (with_reducible refine G.out.mono ?_); rintro e w2' ⟨rfl, pg2, hR2, hK2, hT2⟩)
      have REL : stPost g B (n + 7) size pg (stN M off x 7) w w2' := by
        rw [HS.out]
        refine ⟨pg2, hR2, hK.then hK2 fun i hi h => ?_, fun i h => ?_⟩
        · rcases hT i h with h | h
          · exact h
          · omega
        · rcases hT2 i h with h | h
          · exact hT i h
          · exact .inr (Nat.le_trans hK.size h)
      go_roundw
      case rel => exact ⟨7, 7, rfl, by decide, by go_num, REL⟩
      case measure => simp [intOf]
    · obtain rfl : z = 7 := by omega
      clear hz
      have w1 : IntKind.u64.wrap (at_ + 7) = ((2147483648 + (off + 7) : Nat) : Int) := HW.out 7 (by decide)
      have w2 : IntKind.u8.wrap ((x : Int) / 72057594037927936) = ((x / 72057594037927936 % 256 : Nat) : Int) := HX.out 72057594037927936
      have G := Aside0.mk (GE.out 7 pg' _ _ (by decide) hR)
      rw [show (256 : Nat) ^ 7 = 72057594037927936 from by decide] at G
      have HS : Aside0 (stN M off x 8 = putB (stN M off x 7) (off + 7) (x / 72057594037927936 % 256)) := ⟨rfl⟩
      obtain ⟨a1, ha1⟩ : ∃ a1 : Int, ((2147483648 + (off + 7) : Nat) : Int) = a1 := ⟨_, rfl⟩
      obtain ⟨b1, hb1⟩ : ∃ b1 : Nat, x / 72057594037927936 % 256 = b1 := ⟨_, rfl⟩
      rw [ha1] at w1 G
      rw [hb1] at w2 HS G
      clear ha1 hb1
      go_wp2_with (go_at_call 55; (with_reducible refine G.out.mono ?_); rintro e w2' ⟨rfl, pg2, hR2, hK2, hT2⟩)
      have REL : stPost g B (n + 8) size pg (stN M off x 8) w w2' := by
        rw [HS.out]
        refine ⟨pg2, hR2, hK.then hK2 fun i hi h => ?_, fun i h => ?_⟩
        · rcases hT i h with h | h
          · exact h
          · omega
        · rcases hT2 i h with h | h
          · exact hT i h
          · exact .inr (Nat.le_trans hK.size h)
      go_roundw
      case rel => exact ⟨8, 8, rfl, by decide, by go_num, REL⟩
      case measure => simp [intOf]
set_option maxHeartbeats 8000000 in
set_option maxRecDepth 100000 in
theorem new_m (size : Nat) (w : World) (h0 : 4096 ≤ size) (h1 : size ≤ 268435456) (hal : word_Aligned.f (size : Int) 4096 = some true) :
    Calls Try.prog 29 #[.int .u64 (size : Int)] w fun e w' => ∃ g B, e = .returned (.tuple #[.pointer (some ⟨g, 0, none⟩), .int .i64 0]) ∧ Rm w' g B 0 size (fun _ => none) (fun _ => 0) ∧ KpN w w' ∧ w.heap.size ≤ g ∧ w.heap.size ≤ B := by
  have AL : Aside0 (∀ W, Calls Try.prog 52 #[.int .u64 (size : Int), .int .u64 4096] W fun e w' => e = .returned (.bool true) ∧ ∃ m, w' = W.drewN m) := ⟨fun W => (word_Aligned.calls _ _ _ W hal).mono fun e w' h => ⟨h.1, h.2.out⟩⟩
  have t1 : decide ((size : Int) < 4096) = false := decide_eq_false (by omega)
  have t2 : decide (268435456 < (size : Int)) = false := decide_eq_false (by omega)
  have t1b : decide (size < 4096) = false := decide_eq_false (by omega)
  have t2b : decide (268435456 < size) = false := decide_eq_false (by omega)
  have hmm := @Go.RowKit.run_makeMap Try.prog
  clear hal h0 h1
  go_enter Try.func29, Try.ntmps29
  go_wp2_with (go_at_call 52; refine (AL.out _).mono ?_; rintro e w1 ⟨rfl, m, rfl⟩)
  go_ret2
  have hb : (((w.drewN m).alloc (.map #[] 0)).alloc (.cells #[.int .u64 (size : Int), .map (some w.heap.size), .pointer none] QT)).heap[w.heap.size + 1]? = some (.cells #[.int .u64 (size : Int), .map (some w.heap.size), .pointer none] QT (0, 0)) := by
    have := heap_alloc_new ((w.drewN m).alloc (.map #[] 0)) (.cells #[.int .u64 (size : Int), .map (some w.heap.size), .pointer none] QT)
    rw [show ((w.drewN m).alloc (.map #[] 0)).heap.size = w.heap.size + 1 by simp [World.drewN]] at this
    exact this
  have hm : PMap Try.prog 23 (((w.drewN m).alloc (.map #[] 0)).alloc (.cells #[.int .u64 (size : Int), .map (some w.heap.size), .pointer none] QT)) w.heap.size 0 (fun _ => none) :=
    (PMap.made (w.drewN m)).kp ((Kp.refl _ (fun _ => False)).alloc _) (fun h => h)
  refine ⟨w.heap.size + 1, w.heap.size, rfl, ⟨⟨hb⟩, hm, fun _ _ h => (by cases h), fun _ _ _ _ => rfl, fun _ => (by show 0 < 256; decide), by omega, fun _ _ h => (by cases h), fun _ _ _ h => (by cases h)⟩, (((Kp.refl _ _).drewN m).alloc _).alloc _, by omega, Nat.le_refl _⟩
end Go.Proofs.Ytlhdildnekllhaa.H
/- Addresses through tables (package sv39, and the reference's): entries and rights, what each small function answers. -/
namespace Go.Proofs.Ytlhdildnekllhaa.H
open Go.RowKit Go.Proofs.YtlhdildnekllhaaW.PrintWords Go.Proofs.YtlhdildnekllhaaW.PrintLast Go.Proofs.Ytlhdildnekllhaa.PAl Go.Proofs.Ytlhdildnekllhaa.Pure Go.Proofs.Ytlhdildnekllhaa.Vw
set_option linter.unusedVariables false
set_option linter.unusedSimpArgs false
theorem bitf {x : Nat} (hx : U x) (n : Int) : word_Bit.f (x : Int) n = some (bitW x n) := word_Bit_is x n hx.lt
theorem getf {x : Nat} (hx : U x) (a n : Int) : word_Get.f (x : Int) a n = some ((getW x a n : Nat) : Int) := word_Get_is x a n hx.lt
theorem getr {x : Nat} (hx : U x) (a n : Int) (k : Nat) (hk : 140 ≤ k) : vireoref01_Get.f k (x : Int) a n = some ((getW x a n : Nat) : Int) := vireoref01_Get_is x hx.lt a n k hk
def leafW (e : Nat) : Bool := bitW e 1 || bitW e 3
def oddW (e : Nat) : Bool := !bitW e 0 || decide (getW e 54 10 ≠ 0) || (!bitW e 1 && bitW e 2) || (!leafW e && (bitW e 4 || bitW e 6 || bitW e 7))
theorem leaf_is {e : Nat} (he : U e) : sv39_leaf.f (e : Int) = some (leafW e) := by
  unfold sv39_leaf.f leafW
  rw [bitf he 1, bitf he 3]
  simp only [Option.bind_some]
  cases bitW e 1 <;> simp
theorem int0 (n : Nat) : ((n : Int) = 0) = (n = 0) := propext ⟨fun h => by omega, fun h => by omega⟩
theorem odd_is {e : Nat} (he : U e) (k : Nat) (hk : 110 ≤ k) : sv39_odd.f k (e : Int) = some (oddW e) := by
  obtain ⟨k, rfl⟩ : ∃ m, k = m + 1 := ⟨k - 1, by omega⟩
  unfold sv39_odd.f oddW
  simp only [sv39_odd.j0, bitf he, getf he, leaf_is he, Option.bind_some, int0]
  have an : ∀ a b c : Bool, word_Any.f k [a, b, c] = some ([a, b, c].any id) := fun a b c => word_Any_is [a, b, c] (show 3 ≤ 100 by decide) k (by omega)
  simp only [an, Option.bind_some]
  by_cases hg : getW e 54 10 = 0
  · rw [if_pos hg, decide_eq_false (by simpa using hg)]
    cases bitW e 0 <;> cases bitW e 1 <;> cases bitW e 2 <;> cases leafW e <;> cases bitW e 4 <;> cases bitW e 6 <;> cases bitW e 7 <;> rfl
  · rw [if_neg hg, decide_eq_true (by simpa using hg)]
    cases bitW e 0 <;> rfl
/-- May an access be by an entry that leads to memory? -/
def allowW (kd md : Int) (sum mxr : Bool) (e : Nat) : Bool :=
  if md = 0 ∧ bitW e 4 = false then false
  else if md = 1 ∧ bitW e 4 = true ∧ (kd = 0 ∨ sum = false) then false
  else if bitW e 6 = false then false
  else if kd = 0 then bitW e 3 else if kd = 1 then (bitW e 1 || (mxr && bitW e 3)) else (bitW e 2 && bitW e 7)
theorem allow_is {e : Nat} (he : U e) (sp kd md : Int) (sum mxr : Bool) (k : Nat) (hk : 10 ≤ k) : sv39_Way_allowed.f k sp kd md sum mxr (e : Int) = some (allowW kd md sum mxr e) := by
  obtain ⟨k, rfl⟩ : ∃ m, k = m + 1 + 1 := ⟨k - 2, by omega⟩
  unfold sv39_Way_allowed.f allowW
  simp only [sv39_Way_allowed.j0, sv39_Way_allowed.j1, bitf he, Option.bind_some]
  by_cases h0 : md = 0
  · subst h0
    by_cases k0 : kd = 0
    · subst k0
      cases bitW e 4 <;> cases bitW e 6 <;> cases bitW e 3 <;> simp
    · by_cases k1 : kd = 1
      · subst k1
        cases bitW e 4 <;> cases bitW e 6 <;> cases bitW e 1 <;> cases bitW e 3 <;> cases mxr <;> simp
      · cases bitW e 4 <;> cases bitW e 6 <;> cases bitW e 2 <;> cases bitW e 7 <;> simp [k0, k1]
  · by_cases h1 : md = 1
    · subst h1
      by_cases k0 : kd = 0
      · subst k0
        cases bitW e 4 <;> cases bitW e 6 <;> cases bitW e 3 <;> simp
      · by_cases k1 : kd = 1
        · subst k1
          cases bitW e 4 <;> cases bitW e 6 <;> cases bitW e 1 <;> cases bitW e 3 <;> cases mxr <;> cases sum <;> simp
        · cases bitW e 4 <;> cases bitW e 6 <;> cases bitW e 2 <;> cases bitW e 7 <;> cases sum <;> simp [k0, k1]
    · by_cases k0 : kd = 0
      · subst k0
        cases bitW e 4 <;> cases bitW e 6 <;> cases bitW e 3 <;> simp [h0, h1]
      · by_cases k1 : kd = 1
        · subst k1
          cases bitW e 4 <;> cases bitW e 6 <;> cases bitW e 1 <;> cases bitW e 3 <;> cases mxr <;> simp [h0, h1]
        · cases bitW e 4 <;> cases bitW e 6 <;> cases bitW e 2 <;> cases bitW e 7 <;> simp [h0, h1, k0, k1]
def bareW (sp : Nat) (md : Int) : Bool := decide (md = 3) || decide (getW sp 60 4 ≠ 8)
theorem bare_is {sp : Nat} (hs : U sp) (kd md : Int) (sum mxr : Bool) : sv39_Way_Bare.f (sp : Int) kd md sum mxr = some (bareW sp md) := by
  unfold sv39_Way_Bare.f bareW
  by_cases h : md = 3
  · rw [if_pos h, decide_eq_true h]; rfl
  · rw [if_neg h, decide_eq_false h, getf hs]
    simp only [Option.bind_some, Bool.false_or]
    congr 1
    rw [Bool.eq_iff_iff, bne_iff_ne, decide_eq_true_iff]
    omega
theorem rbare_is {sp : Nat} (hs : U sp) (kd md : Int) (sum mxr : Bool) (k : Nat) (hk : 140 ≤ k) : vireoref10_Bare.f k (sp : Int) kd md sum mxr = some (bareW sp md) := by
  unfold vireoref10_Bare.f bareW
  by_cases h : md = 3
  · rw [if_pos h, decide_eq_true h]; rfl
  · rw [if_neg h, decide_eq_false h, getr hs _ _ k hk]
    simp only [Option.bind_some, Bool.false_or]
    congr 1
    rw [Bool.eq_iff_iff, bne_iff_ne, decide_eq_true_iff]
    omega
def properW (va : Nat) : Bool := decide (getW va 38 26 = 0 ∨ getW va 38 26 = 67108863)
theorem rproper_is {va : Nat} (h : U va) (k : Nat) (hk : 140 ≤ k) : vireoref10_Proper.f k (va : Int) = some (properW va) := by
  unfold vireoref10_Proper.f properW
  rw [getr h 38 26 k hk]
  simp only [Option.bind_some, int0]
  by_cases h0 : getW va 38 26 = 0
  · rw [if_pos h0, decide_eq_true (.inl h0)]
  · rw [if_neg h0]
    congr 1
    rw [Bool.eq_iff_iff, beq_iff_eq, decide_eq_true_iff]
    omega
theorem tb38 (va i : Nat) (hi : i < 26) : (getW va 38 26).testBit i = va.testBit (38 + i) := by
  rw [tb_getW, decide_eq_true (show (0 : Int) ≤ 38 ∧ (38 : Int) ≤ 63 by decide), decide_eq_true (show i < cnt 26 from hi)]; rfl
theorem sext_proper {va : Nat} (h : U va) : sextW va 39 = va ↔ (getW va 38 26 = 0 ∨ getW va 38 26 = 67108863) := by
  have hl : getW va 38 26 < 2 ^ 26 := by unfold getW; rw [if_pos (by decide)]; exact Nat.mod_lt _ (by decide)
  have hs : ∀ i, i < 64 → (sextW va 39).testBit i = va.testBit (if i < 39 then i else 38) := fun i hi => by
    unfold sextW; rw [if_neg (by decide), if_neg (by decide), testBit_ob, decide_eq_true hi]; rfl
  constructor
  · intro e
    have key : ∀ i, i < 26 → va.testBit (38 + i) = va.testBit 38 := fun i hi => by
      have := hs (38 + i) (by omega)
      rw [e] at this
      rw [this]
      split
      · congr 1; omega
      · rfl
    cases hb : va.testBit 38
    · left
      apply eq_of_bits (n := 26) hl (by decide)
      intro i hi
      rw [tb38 va i hi, key i hi, hb, Nat.zero_testBit]
    · right
      apply eq_of_bits (n := 26) hl (by decide)
      intro i hi
      rw [tb38 va i hi, key i hi, hb, show (67108863 : Nat) = 2 ^ 26 - 1 by decide, Nat.testBit_two_pow_sub_one, decide_eq_true hi]
  · intro e
    have key : ∀ i, i < 26 → va.testBit (38 + i) = va.testBit 38 := fun i hi => by
      have h1 := tb38 va i hi
      have h2 := tb38 va 0 (by decide)
      rw [Nat.add_zero] at h2
      rw [← h1, ← h2]
      rcases e with e | e
      · rw [e, Nat.zero_testBit, Nat.zero_testBit]
      · rw [e, show (67108863 : Nat) = 2 ^ 26 - 1 by decide, Nat.testBit_two_pow_sub_one, Nat.testBit_two_pow_sub_one, decide_eq_true hi]; rfl
    apply eq64 (sextW_lt h.lt _) h.lt
    intro i hi
    rw [hs i hi]
    split
    · rfl
    · have := key (i - 38) (by omega)
      rw [show 38 + (i - 38) = i by omega] at this
      exact this.symm
theorem proper_is {va : Nat} (h : U va) (k : Nat) (hk : 0 < k) : sv39_Proper.f k (va : Int) = some (properW va) := by
  unfold sv39_Proper.f properW
  rw [word_Sext_is k hk va 39 h.lt (by decide)]
  simp only [Option.bind_some]
  congr 1
  rw [Bool.eq_iff_iff, beq_iff_eq, decide_eq_true_iff, ← sext_proper h]
  omega
end Go.Proofs.Ytlhdildnekllhaa.H
/- Package sv39, walked by hand: an address through tables. -/
namespace Go.Proofs.Ytlhdildnekllhaa.H
open Go.RowKit Go.Proofs.YtlhdildnekllhaaW.PrintWords Go.Proofs.YtlhdildnekllhaaW.PrintLast Go.Proofs.Ytlhdildnekllhaa.PAl Go.Proofs.Ytlhdildnekllhaa.Pure Go.Proofs.Ytlhdildnekllhaa.Vw
set_option linter.unusedVariables false
set_option linter.unusedSimpArgs false
/-- What a walk comes to. -/
structure RS where
  addr : Nat
  fault : Bool
  page : Bool
  reads : Int
def RS.cells (r : RS) : Array Value := #[.int .u64 (r.addr : Int), .bool r.fault, .bool r.page, .int .i64 r.reads]
abbrev wayC (sp : Nat) (kd md : Int) (sum mxr : Bool) : Array Value := #[.int .u64 (sp : Int), .int .i64 kd, .int .i64 md, .bool sum, .bool mxr]
abbrev YT : TypeId := 40
abbrev ST : TypeId := 36
theorem infoY : (Try.prog.info? YT).map (·.size) = some 5 := by kernel_rfl
theorem infoS : (Try.prog.info? ST).map (·.size) = some 4 := by kernel_rfl
theorem zeroS (w : World) : (zeroValue ST).run Try.prog w = .ok (.agg (RS.mk 0 false false 0).cells) w := by kernel_rfl
theorem RS.one (r : RS) : r.cells.all (·.oneCell') = true := by simp [RS.cells, Value.oneCell']
def pageW (e : Nat) : Nat := getW e 10 44 * 4096
def entA (va T l : Nat) : Nat := (T + 8 * getW va (12 + 9 * (l : Int)) 9) % 18446744073709551616
def badR (l : Nat) : RS := ⟨0, true, true, 3 - (l : Int)⟩
/-- From a table at a level on: l - 1 is the level. -/
def walkL (M : Nat → Nat) (size : Nat) (kd md : Int) (sum mxr : Bool) (va : Nat) : Nat → Nat → RS
  | 0, _ => ⟨0, true, true, 3⟩
  | l + 1, T =>
    if hasB size (entA va T l) 8 = false then ⟨0, true, false, 2 - (l : Int)⟩
    else if oddW (ldN M (entA va T l - 2147483648) 8) = true then badR l
    else if leafW (ldN M (entA va T l - 2147483648) 8) = false then walkL M size kd md sum mxr va l (pageW (ldN M (entA va T l - 2147483648) 8))
    else if allowW kd md sum mxr (ldN M (entA va T l - 2147483648) 8) = false ∨ getW (pageW (ldN M (entA va T l - 2147483648) 8)) 0 (12 + 9 * (l : Int)) ≠ 0 then badR l
    else ⟨pageW (ldN M (entA va T l - 2147483648) 8) ||| getW va 0 (12 + 9 * (l : Int)), false, false, 3 - (l : Int)⟩
def walkW (M : Nat → Nat) (size : Nat) (sp : Nat) (kd md : Int) (sum mxr : Bool) (va : Nat) : RS :=
  if bareW sp md = true then ⟨va, false, false, 0⟩ else if properW va = false then ⟨0, true, true, 0⟩ else walkL M size kd md sum mxr va 3 (getW sp 0 44 * 4096)
theorem get44 (x : Nat) (a : Int) : getW x a 44 < 17592186044416 := by
  unfold getW; split
  · exact Nat.mod_lt _ (by decide)
  · decide
theorem pageW_lt (e : Nat) : pageW e < 72057594037927936 := by have := get44 e 10; unfold pageW; omega
theorem pageW_ok (e : Nat) : U (pageW e) := ⟨by have := pageW_lt e; omega⟩
theorem Bk.drewN {w : World} {g cs T} (h : Bk w g cs T) (n : Nat) : Bk (w.drewN n) g cs T := ⟨h.blk⟩
/-- What a round of the tables keeps. -/
structure WInv (w W : World) (g B n size : Nat) (pg : Nat → Option Nat) (M : Nat → Nat) (k r h : Nat) (cy : Array Value) (reads : Int) : Prop where
  R : Rm W g B n size pg M
  Y : Bk W k cy YT
  S : Bk W r (RS.mk 0 false false reads).cells ST
  H : Bk W h (RS.mk 0 false false 0).cells ST
  K : KpN w W
theorem WInv.kpN {w W W' : World} {g B n size pg M k r h cy reads} (i : WInv w W g B n size pg M k r h cy reads) (q : KpN W W') : WInv w W' g B n size pg M k r h cy reads :=
  ⟨i.R.kpN q, i.Y.kp q (fun h => h), i.S.kp q (fun h => h), i.H.kp q (fun h => h), i.K.trans q⟩
theorem WInv.drewN {w W : World} {g B n size pg M k r h cy reads} (i : WInv w W g B n size pg M k r h cy reads) (m : Nat) : WInv w (W.drewN m) g B n size pg M k r h cy reads := i.kpN ((Kp.refl _ _).drewN m)
def wPost (w : World) (R : RS) (e : Ending) (w' : World) : Prop := e = .returned (.agg R.cells) ∧ KpN w w'
theorem part_c (va l : Nat) (w : World) (hv : U va) (hl : l ≤ 2) : Calls Try.prog 34 #[.int .u64 (va : Int), .int .i64 (l : Int)] w fun e w' => e = .returned (.int .u64 ((getW va (12 + 9 * (l : Int)) 9 : Nat) : Int)) ∧ ∃ m, w' = w.drewN m := by
  have h : sv39_part.f (va : Int) (l : Int) = some ((getW va (12 + 9 * (l : Int)) 9 : Nat) : Int) := by
    unfold sv39_part.f
    have e1 : wrap64 (9 * (l : Int)) = 9 * (l : Int) := by unfold wrap64; omega
    have e2 : wrap64 (12 + 9 * (l : Int)) = 12 + 9 * (l : Int) := by unfold wrap64; omega
    rw [e1, e2, getf hv]; rfl
  exact (sv39_part.calls _ _ _ w h).mono fun e w' q => ⟨q.1, q.2.out⟩
theorem odd_c (e : Nat) (w : World) (he : U e) : Calls Try.prog 35 #[.int .u64 (e : Int)] w fun e' w' => e' = .returned (.bool (oddW e)) ∧ KpN w w' :=
  (sv39_odd.calls 200 _ _ w (odd_is he 200 (by decide))).mono fun _ _ q => ⟨q.1, Kp.of_below q.2 _⟩
theorem leaf_c (e : Nat) (w : World) (he : U e) : Calls Try.prog 36 #[.int .u64 (e : Int)] w fun e' w' => e' = .returned (.bool (leafW e)) ∧ ∃ m, w' = w.drewN m :=
  (sv39_leaf.calls _ _ w (leaf_is he)).mono fun _ _ q => ⟨q.1, q.2.out⟩
theorem allow_c (sp : Nat) (kd md : Int) (sum mxr : Bool) (e : Nat) (w : World) (he : U e) : Calls Try.prog 37 #[.agg (wayC sp kd md sum mxr), .int .u64 (e : Int)] w fun e' w' => e' = .returned (.bool (allowW kd md sum mxr e)) ∧ KpN w w' :=
  (sv39_Way_allowed.calls 20 _ _ _ _ _ _ _ w (allow_is he _ _ _ _ _ 20 (by decide))).mono fun _ _ q => ⟨q.1, Kp.of_below q.2 _⟩
theorem bare_c (sp : Nat) (kd md : Int) (sum mxr : Bool) (w : World) (hs : U sp) : Calls Try.prog 24 #[.agg (wayC sp kd md sum mxr)] w fun e' w' => e' = .returned (.bool (bareW sp md)) ∧ KpN w w' :=
  (sv39_Way_Bare.calls _ _ _ _ _ _ w (bare_is hs _ _ _ _)).mono fun _ _ q => ⟨q.1, Kp.of_below q.2 _⟩
theorem proper_c (va : Nat) (w : World) (hv : U va) : Calls Try.prog 26 #[.int .u64 (va : Int)] w fun e' w' => e' = .returned (.bool (properW va)) ∧ ∃ m, w' = w.drewN m :=
  (sv39_Proper.calls 20 _ _ w (proper_is hv 20 (by decide))).mono fun _ _ q => ⟨q.1, q.2.out⟩

section
variable (M : Nat → Nat) (size : Nat) (kd md : Int) (sum mxr : Bool) (va l T a e pw gl gv : Nat)
theorem walkL_fault (ha : entA va T l = a) (h : hasB size a 8 = false) : walkL M size kd md sum mxr va (l + 1) T = ⟨0, true, false, 2 - (l : Int)⟩ := by
  rw [walkL.eq_2, ha, if_pos h]
theorem walkL_has (ha : entA va T l = a) (h : ¬ hasB size a 8 = false) (he : ldN M (a - 2147483648) 8 = e) (hp : pageW e = pw) (hg : getW pw 0 (12 + 9 * (l : Int)) = gl) (hv : getW va 0 (12 + 9 * (l : Int)) = gv) :
    walkL M size kd md sum mxr va (l + 1) T = if oddW e = true then badR l else if leafW e = false then walkL M size kd md sum mxr va l pw else if allowW kd md sum mxr e = false ∨ gl ≠ 0 then badR l else ⟨pw ||| gv, false, false, 3 - (l : Int)⟩ := by
  rw [walkL.eq_2, ha, if_neg h, he, hp, hg, hv]
theorem WInv.set {w W W' : World} {g B n size pg M k r h cy rd rd'} (hI : Rm w g B n size pg M) (i : WInv w W g B n size pg M k r h cy rd) (hrk : k ≠ r) (hrh : h ≠ r) (hrw : w.heap.size ≤ r) (q : Kp W W' (fun i => i = r)) (hS : Bk W' r (RS.mk 0 false false rd').cells ST) : WInv w W' g B n size pg M k r h cy rd' :=
  have K : KpN w W' := i.K.then q fun j hj (e : j = r) => by omega
  ⟨hI.kpN K, i.Y.kp q hrk, hS, i.H.kp q hrh, K⟩
end
set_option maxHeartbeats 8000000 in
set_option maxRecDepth 100000 in
theorem walk_bare (g B n size : Nat) (pg : Nat → Option Nat) (M : Nat → Nat) (sp : Nat) (kd md : Int) (sum mxr : Bool) (va : Nat) (w : World) (hI : Rm w g B n size pg M) (hs : size ≤ 268435456) (hp : U sp) (hv : U va) (hb : bareW sp md = true) :
    Calls Try.prog 12 #[.pointer (some ⟨g, 0, none⟩), .agg (wayC sp kd md sum mxr), .int .u64 (va : Int)] w (wPost w (walkW M size sp kd md sum mxr va)) := by
  have HW : Aside0 (walkW M size sp kd md sum mxr va = ⟨va, false, false, 0⟩) := ⟨by unfold walkW; rw [if_pos hb]⟩
  have BR : Aside0 (∀ W, Calls Try.prog 24 #[.agg (wayC sp kd md sum mxr)] W fun e' w' => e' = .returned (.bool true) ∧ KpN W w') := ⟨fun W => by have := bare_c sp kd md sum mxr W hp; rw [hb] at this; exact this⟩
  clear hb
  go_enter Try.func12, Try.ntmps12
  go_wp2_with (first
    | (((with_reducible refine gate_dst (N := 4) rfl ?_); refine bx_ev rfl rfl (N := 4) rfl (wayC sp kd md sum mxr) rfl ?_; intro k hg_k w1 hb_k hk_k; have Hg_k := Aside0.mk hg_k; clear hg_k); have hY1 := Bk.mk hb_k)
    | (((with_reducible refine gate_dst (N := 6) rfl ?_); refine al_ev rfl rfl (N := 6) rfl _ (zeroS _) ?_; intro h hg_h w2 hb_h hk_h; have Hg_h := Aside0.mk hg_h; clear hg_h); have hY2 := hY1.kp hk_h (fun h => h))
    | ((with_reducible refine gate_dst (N := 14) rfl ?_); refine wpList_load_row rfl 40 _ rfl k rfl _ (wayC sp kd md sum mxr) (0, 0) _ (hY2.blk) Try.underlying40 rfl infoY ?_)
    | (go_at_call 24; refine (BR.out _).mono ?_; rintro e w3 ⟨rfl, k3⟩; have hH3 := (Bk.mk hb_h).kp k3 (fun h => h))
    | ((with_reducible refine gate_store (t := 36) (p := 6) rfl ?_); refine st_ev rfl rfl rfl h ((RS.mk va false false 0).cells) _ _ rfl rfl (hH3.blk) infoS rfl (RS.one _) ?_; intro w4 hs_w4 ks_w4))
  refine bodyPost_ret (results_cell_row rfl _ _ h 36 ((RS.mk va false false 0).cells) (0, 0) _ rfl (hs_w4) Try.underlying36 rfl infoS) rfl ?_
  rw [HW.out]
  exact ⟨rfl, (((hk_k.trans hk_h).trans k3)).then ks_w4 fun i hi (e : i = h) => by have := Hg_h.out; have := hk_k.size; omega⟩
set_option maxHeartbeats 8000000 in
set_option maxRecDepth 100000 in
theorem walk_notp (g B n size : Nat) (pg : Nat → Option Nat) (M : Nat → Nat) (sp : Nat) (kd md : Int) (sum mxr : Bool) (va : Nat) (w : World) (hI : Rm w g B n size pg M) (hs : size ≤ 268435456) (hp : U sp) (hv : U va) (hb : bareW sp md = false) (hq : properW va = false) :
    Calls Try.prog 12 #[.pointer (some ⟨g, 0, none⟩), .agg (wayC sp kd md sum mxr), .int .u64 (va : Int)] w (wPost w (walkW M size sp kd md sum mxr va)) := by
  have HW : Aside0 (walkW M size sp kd md sum mxr va = ⟨0, true, true, 0⟩) := ⟨by unfold walkW; rw [if_neg (by rw [hb]; decide), if_pos hq]⟩
  have BR : Aside0 (∀ W, Calls Try.prog 24 #[.agg (wayC sp kd md sum mxr)] W fun e' w' => e' = .returned (.bool false) ∧ KpN W w') := ⟨fun W => by have := bare_c sp kd md sum mxr W hp; rw [hb] at this; exact this⟩
  have PR : Aside0 (∀ W, Calls Try.prog 26 #[.int .u64 (va : Int)] W fun e' w' => e' = .returned (.bool false) ∧ ∃ m, w' = W.drewN m) := ⟨fun W => by have := proper_c va W hv; rw [hq] at this; exact this⟩
  clear hb hq
  go_enter Try.func12, Try.ntmps12
  go_wp2_with (first
    | (((with_reducible refine gate_dst (N := 4) rfl ?_); refine bx_ev rfl rfl (N := 4) rfl (wayC sp kd md sum mxr) rfl ?_; intro k hg_k w1 hb_k hk_k; have Hg_k := Aside0.mk hg_k; clear hg_k); have hY1 := Bk.mk hb_k)
    | (((with_reducible refine gate_dst (N := 6) rfl ?_); refine al_ev rfl rfl (N := 6) rfl _ (zeroS _) ?_; intro h hg_h w2 hb_h hk_h; have Hg_h := Aside0.mk hg_h; clear hg_h); have hY2 := hY1.kp hk_h (fun h => h))
    | ((with_reducible refine gate_dst (N := 14) rfl ?_); refine wpList_load_row rfl 40 _ rfl k rfl _ (wayC sp kd md sum mxr) (0, 0) _ (hY2.blk) Try.underlying40 rfl infoY ?_)
    | (go_at_call 24; refine (BR.out _).mono ?_; rintro e w3 ⟨rfl, k3⟩; have hH3 := (Bk.mk hb_h).kp k3 (fun h => h))
    | (go_at_call 26; refine (PR.out _).mono ?_; rintro e w3' ⟨rfl, m, rfl⟩)
    | ((with_reducible refine gate_store (t := 36) (p := 6) rfl ?_); refine st_ev rfl rfl rfl h ((RS.mk 0 true true 0).cells) _ _ rfl rfl ((hH3.drewN _).blk) infoS rfl (RS.one _) ?_; intro w4 hs_w4 ks_w4))
  refine bodyPost_ret (results_cell_row rfl _ _ h 36 ((RS.mk 0 true true 0).cells) (0, 0) _ rfl (hs_w4) Try.underlying36 rfl infoS) rfl ?_
  rw [HW.out]
  exact ⟨rfl, (((hk_k.trans hk_h).trans k3).drewN _).then ks_w4 fun i hi (e : i = h) => by have := Hg_h.out; have := hk_k.size; omega⟩
end Go.Proofs.Ytlhdildnekllhaa.H
/- Package sv39, walked by hand: an address through tables, with the tables. -/
namespace Go.Proofs.Ytlhdildnekllhaa.H
open Go.RowKit Go.Proofs.YtlhdildnekllhaaW.PrintWords Go.Proofs.YtlhdildnekllhaaW.PrintLast Go.Proofs.Ytlhdildnekllhaa.PAl Go.Proofs.Ytlhdildnekllhaa.Pure Go.Proofs.Ytlhdildnekllhaa.Vw
set_option linter.unusedVariables false
set_option linter.unusedSimpArgs false
set_option maxHeartbeats 8000000 in
set_option maxRecDepth 100000 in
theorem walk_tab (g B n size : Nat) (pg : Nat → Option Nat) (M : Nat → Nat) (sp : Nat) (kd md : Int) (sum mxr : Bool) (va : Nat) (w : World) (hI : Rm w g B n size pg M) (hs : size ≤ 268435456) (hp : U sp) (hv : U va) (hb : bareW sp md = false) (hq : properW va = true) :
    Calls Try.prog 12 #[.pointer (some ⟨g, 0, none⟩), .agg (wayC sp kd md sum mxr), .int .u64 (va : Int)] w (wPost w (walkW M size sp kd md sum mxr va)) := by
  have HW : Aside0 (walkW M size sp kd md sum mxr va = walkL M size kd md sum mxr va 3 (getW sp 0 44 * 4096)) := ⟨by unfold walkW; rw [if_neg (by rw [hb]; decide), if_neg (by rw [hq]; decide)]⟩
  have BR : Aside0 (∀ W, Calls Try.prog 24 #[.agg (wayC sp kd md sum mxr)] W fun e' w' => e' = .returned (.bool false) ∧ KpN W w') := ⟨fun W => by have := bare_c sp kd md sum mxr W hp; rw [hb] at this; exact this⟩
  have PR : Aside0 (∀ W, Calls Try.prog 26 #[.int .u64 (va : Int)] W fun e' w' => e' = .returned (.bool true) ∧ ∃ m, w' = W.drewN m) := ⟨fun W => by have := proper_c va W hv; rw [hq] at this; exact this⟩
  have e44 : IntKind.u64.wrap (((getW sp 0 44 : Nat) : Int) * 4096) = ((getW sp 0 44 * 4096 : Nat) : Int) := by have := get44 sp 0; rw [IntKind.wrap_u64]; omega
  have hT0 : U (getW sp 0 44 * 4096) := ⟨by have := get44 sp 0; omega⟩
  have HP := Aside0.mk hp
  clear hb hq hp
  go_enter Try.func12, Try.ntmps12
  go_wp2_with (first
    | (((with_reducible refine gate_dst (N := 4) rfl ?_); refine bx_ev rfl rfl (N := 4) rfl (wayC sp kd md sum mxr) rfl ?_; intro k hg_k w1 hb_k hk_k; have Hg_k := Aside0.mk hg_k; clear hg_k); have hY1 := Bk.mk hb_k)
    | (((with_reducible refine gate_dst (N := 6) rfl ?_); refine al_ev rfl rfl (N := 6) rfl _ (zeroS _) ?_; intro h hg_h w2 hb_h hk_h; have Hg_h := Aside0.mk hg_h; clear hg_h); have hY2 := hY1.kp hk_h (fun h => h); have hH2 := Bk.mk hb_h)
    | ((with_reducible refine gate_dst (N := 14) rfl ?_); refine wpList_load_row rfl 40 _ rfl k rfl _ (wayC sp kd md sum mxr) (0, 0) _ (hY2.blk) Try.underlying40 rfl infoY ?_)
    | (go_at_call 24; refine (BR.out _).mono ?_; rintro e w3 ⟨rfl, k3⟩; have hY3 := hY2.kp k3 (fun h => h); have y0 := hY3.c 0; rw [show (wayC sp kd md sum mxr)[0]? = some (.int .u64 (sp : Int)) from rfl] at y0)
    | (go_at_call 26; refine (PR.out _).mono ?_; rintro e w3' ⟨rfl, m, rfl⟩)
    | (go_at_call 32; refine (get_c sp 0 44 _ HP.out).mono ?_; rintro e w3' ⟨rfl, m2, rfl⟩)
    | ((with_reducible refine gate_dst (N := 8) rfl ?_); refine al_ev rfl rfl (N := 8) rfl _ (zeroS _) ?_; intro r hg_r w5 hb_r hk_r; have Hg_r := Aside0.mk hg_r; clear hg_r))
  have K2 : KpN w w2 := hk_k.trans hk_h
  have hkh : k ≠ h := by have := Hg_h.out; have := blk_lt hb_k; omega
  have hrh : h ≠ r := by have := Hg_r.out; have := k3.size; have := blk_lt hb_h; simp only [World.drewN] at *; omega
  have hrk : k ≠ r := by have := Hg_r.out; have := k3.size; have := blk_lt hY2.blk; simp only [World.drewN] at *; omega
  have hkw : w.heap.size ≤ k := by have := Hg_k.out; omega
  have hhw : w.heap.size ≤ h := by have := Hg_h.out; have := hk_k.size; omega
  have hrw : w.heap.size ≤ r := by have := Hg_r.out; have := k3.size; have := K2.size; simp only [World.drewN] at *; omega
  have K5 : KpN w w5 := ((K2.trans k3).drewN _).trans hk_r
  have I5 : WInv w w5 g B n size pg M k r h (wayC sp kd md sum mxr) 0 := ⟨hI.kpN K5, (hY3.drewN _).kp hk_r (fun h => h), ⟨hb_r⟩, (((Bk.mk hb_h).kp k3 (fun h => h)).drewN _).kp hk_r (fun h => h), K5⟩
  have hlt := Aside0.mk hI.lt
  have HI := Aside0.mk hI
  obtain ⟨T0, hT⟩ : ∃ T0, getW sp 0 44 * 4096 = T0 := ⟨_, rfl⟩
  have hTi : ((getW sp 0 44 : Nat) : Int) * 4096 = (T0 : Int) := by rw [← hT]; simp
  rw [hT] at HW hT0
  simp only [hTi]
  clear hY1 hY2 hH2 hY3 y0 hb_k hb_h hb_r hk_k hk_h hk_r k3 Hg_k Hg_h Hg_r K2 K5 e44 hT hTi BR PR hI
  go_loopw [7, 9] (fun t i W => ∃ (l : Nat) (z : Int) (T : Nat), z = (l : Int) - 1 ∧ l ≤ 3 ∧ i = .int .i64 z ∧ t = .int .u64 (T : Int) ∧ U T ∧ Aside0 (walkL M size kd md sum mxr va l T = walkL M size kd md sum mxr va 3 T0) ∧ WInv w W g B n size pg M k r h (wayC sp kd md sum mxr) (3 - (l : Int))) (fun _ i _ => (intOf i + 1).toNat)
  case atStart => exact ⟨3, 2, T0, rfl, by decide, rfl, rfl, hT0, ⟨rfl⟩, I5⟩
  case round =>
    obtain ⟨l, z, T, hz, hl, rfl, rfl, hTU, HV, inv⟩ := hrel
    clear hT0 I5
    have hl4 : l = 0 ∨ l = 1 ∨ l = 2 ∨ l = 3 := by omega
    have HVa := Aside0.mk hv
    clear hl hv
    rcases hl4 with rfl | rfl | rfl | rfl
    · obtain rfl : z = -1 := by omega
      have HR : Aside0 (walkW M size sp kd md sum mxr va = ⟨0, true, true, 3⟩) := ⟨by rw [HW.out, ← HV.out, walkL.eq_1]⟩
      have c1 : wr.cell? ⟨r, 1, none⟩ = some (.bool false) := inv.S.c 1
      have c2 : wr.cell? ⟨r, 2, none⟩ = some (.bool false) := inv.S.c 2
      have f1 := blk_frozen inv.S.blk 1
      have f2 := blk_frozen inv.S.blk 2
      have q1 := blk_set (blk_set inv.S.blk 1 (.bool true)) 2 (.bool true)
      have kk := ((Kp.refl wr (fun i => i = r)).setCell (p := ⟨r, 1, none⟩) (.inl rfl) (.bool true)).setCell (p := ⟨r, 2, none⟩) (.inl rfl) (.bool true)
      have hH := inv.H.kp kk hrh
      clear hz
      go_wp2_with (first
        | ((with_reducible refine gate_dst (N := 88) rfl ?_); refine wpList_load_row rfl 36 _ rfl r rfl _ ((RS.mk 0 true true 3).cells) (0, 0) _ (q1) Try.underlying36 rfl infoS ?_)
        | ((with_reducible refine gate_store (t := 36) (p := 6) rfl ?_); refine st_ev rfl rfl rfl h ((RS.mk 0 true true 3).cells) _ _ rfl rfl (hH.blk) infoS rfl (RS.one _) ?_; intro wz hs_wz ks_wz))
      refine bodyPost_ret (results_cell_row rfl _ _ h 36 ((RS.mk 0 true true 3).cells) (0, 0) _ rfl (hs_wz) Try.underlying36 rfl infoS) rfl ?_
      rw [HR.out]
      exact ⟨rfl, (inv.K.then kk fun i hi (e : i = r) => by omega).then ks_wz fun i hi (e : i = h) => by omega⟩
    · obtain rfl : z = 0 := by omega
      clear hz
      have inv : WInv w wr g B n size pg M k r h (wayC sp kd md sum mxr) 2 := inv
      obtain ⟨p9, hp9⟩ : ∃ p9, getW va (12 + 9 * ((0 : Nat) : Int)) 9 = p9 := ⟨_, rfl⟩
      have hp5 : p9 < 512 := by rw [← hp9]; unfold getW; split; exact Nat.mod_lt _ (by decide); decide
      have PT : Aside0 (∀ W, Calls Try.prog 34 #[.int .u64 (va : Int), .int .i64 0] W fun e w' => e = .returned (.int .u64 (p9 : Int)) ∧ ∃ m, w' = W.drewN m) := ⟨fun W => by have := part_c va 0 W HVa.out (by decide); rw [hp9] at this; exact this⟩
      obtain ⟨a, ha⟩ : ∃ a, entA va T 0 = a := ⟨_, rfl⟩
      have haU : U a := ⟨by rw [← ha]; unfold entA; exact Nat.mod_lt _ (by decide)⟩
      have ea : (T + 8 * p9) % 18446744073709551616 = a := by rw [← ha, ← hp9]; rfl
      have e1 : IntKind.u64.wrap (8 * (p9 : Int)) = 8 * (p9 : Int) := by rw [IntKind.wrap_u64]; omega
      have e2 : IntKind.u64.wrap ((T : Int) + 8 * (p9 : Int)) = (a : Int) := by rw [IntKind.wrap_u64]; omega
      clear ea hp9 hp5 hTU
      by_cases hB : hasB size a 8 = false
      · have HR : Aside0 (walkW M size sp kd md sum mxr va = ⟨0, true, false, 2⟩) := ⟨by rw [HW.out, ← HV.out, walkL_fault _ _ _ _ _ _ _ _ _ a ha hB]; rfl⟩
        have LD : Aside0 (∀ W, Rm W g B n size pg M → Calls Try.prog 33 #[.pointer (some ⟨g, 0, none⟩), .int .u64 (a : Int), .int .i64 8] W fun e w' => e = .returned (.tuple #[.int .u64 0, .bool false]) ∧ ∃ m, w' = W.drewN m) := ⟨fun W h => load_no g B n size pg M a W h haU ⟨by omega⟩ hB⟩
        have c1 : wr.cell? ⟨r, 1, none⟩ = some (.bool false) := inv.S.c 1
        have f1 := blk_frozen inv.S.blk 1
        clear ha hB haU hs HV
        go_wp2_with (first
          | (go_at_call 34; refine (PT.out _).mono ?_; rintro e w' ⟨rfl, m1, rfl⟩)
          | (go_at_call 33; refine (LD.out _ (inv.R.drewN _)).mono ?_; rintro e w' ⟨rfl, m2, rfl⟩; have q1 := blk_set (inv.drewN (m1 + m2)).S.blk 1 (.bool true); have kk := ((Kp.refl wr (fun i => i = r)).drewN (m1 + m2)).setCell (p := ⟨r, 1, none⟩) (.inl rfl) (.bool true); have hH := inv.H.kp kk hrh)
          | ((with_reducible refine gate_dst (N := 44) rfl ?_); refine wpList_load_row rfl 36 _ rfl r rfl _ ((RS.mk 0 true false 2).cells) (0, 0) _ (q1) Try.underlying36 rfl infoS ?_)
          | ((with_reducible refine gate_store (t := 36) (p := 6) rfl ?_); refine st_ev rfl rfl rfl h ((RS.mk 0 true false 2).cells) _ _ rfl rfl (hH.blk) infoS rfl (RS.one _) ?_; intro wz hs_wz ks_wz))
        refine bodyPost_ret (results_cell_row rfl _ _ h 36 ((RS.mk 0 true false 2).cells) (0, 0) _ rfl (hs_wz) Try.underlying36 rfl infoS) rfl ?_
        rw [HR.out]
        exact ⟨rfl, (inv.K.then kk fun i hi (e : i = r) => by omega).then ks_wz fun i hi (e : i = h) => by omega⟩
      have hBt : hasB size a 8 = true := by simpa using hB
      obtain ⟨off, hoff, hle⟩ : ∃ off, a = 2147483648 + off ∧ off + 8 ≤ size := by
        have := of_decide_eq_true hBt
        exact ⟨a - 2147483648, by omega, by omega⟩
      obtain ⟨e, he⟩ : ∃ e, ldN M (a - 2147483648) 8 = e := ⟨_, rfl⟩
      have heU : U e := ⟨by rw [← he]; have := ldN_lt inv.R.byt (a - 2147483648) 8; have e8 : (256 : Nat) ^ 8 = 18446744073709551616 := by decide
                            omega⟩
      have LD : Aside0 (∀ W, Rm W g B n size pg M → Calls Try.prog 33 #[.pointer (some ⟨g, 0, none⟩), .int .u64 (a : Int), .int .i64 8] W fun e' w' => e' = .returned (.tuple #[.int .u64 (e : Int), .bool true]) ∧ ∃ m, w' = W.drewN m) := ⟨fun W h => by
        have := load_yes g B n size pg M off W h hle hs; rw [show off = a - 2147483648 by omega, he, show 2147483648 + (a - 2147483648) = a by omega] at this; exact this⟩
      have GP : Aside0 (∀ W, Calls Try.prog 32 #[.int .u64 (e : Int), .int .i64 10, .int .i64 44] W fun e' w' => e' = .returned (.int .u64 ((getW e 10 44 : Nat) : Int)) ∧ ∃ m, w' = W.drewN m) := ⟨fun W => get_c e 10 44 W heU⟩
      have ep : IntKind.u64.wrap (((getW e 10 44 : Nat) : Int) * 4096) = ((pageW e : Nat) : Int) := by have := get44 e 10; unfold pageW; rw [IntKind.wrap_u64]; omega
      have ep' : ((getW e 10 44 : Nat) : Int) * 4096 = ((pageW e : Nat) : Int) := by unfold pageW; simp
      have OD : Aside0 (∀ W, Calls Try.prog 35 #[.int .u64 (e : Int)] W fun e' w' => e' = .returned (.bool (oddW e)) ∧ KpN W w') := ⟨fun W => odd_c e W heU⟩
      have LF : Aside0 (∀ W, Calls Try.prog 36 #[.int .u64 (e : Int)] W fun e' w' => e' = .returned (.bool (leafW e)) ∧ ∃ m, w' = W.drewN m) := ⟨fun W => leaf_c e W heU⟩
      have AL : Aside0 (∀ W, Calls Try.prog 37 #[.agg (wayC sp kd md sum mxr), .int .u64 (e : Int)] W fun e' w' => e' = .returned (.bool (allowW kd md sum mxr e)) ∧ KpN W w') := ⟨fun W => allow_c sp kd md sum mxr e W heU⟩
      obtain ⟨pw, hpw⟩ : ∃ pw, pageW e = pw := ⟨_, rfl⟩
      obtain ⟨gl, hgl⟩ : ∃ gl, getW pw 0 (12 + 9 * ((0 : Nat) : Int)) = gl := ⟨_, rfl⟩
      obtain ⟨gv, hgv⟩ : ∃ gv, getW va 0 (12 + 9 * ((0 : Nat) : Int)) = gv := ⟨_, rfl⟩
      obtain ⟨pn, hpn⟩ : ∃ pn, getW e 10 44 = pn := ⟨_, rfl⟩
      have HS : Aside0 (walkW M size sp kd md sum mxr va = if oddW e = true then badR 0 else if leafW e = false then walkL M size kd md sum mxr va 0 pw else if allowW kd md sum mxr e = false ∨ gl ≠ 0 then badR 0 else ⟨pw ||| gv, false, false, 3⟩) := ⟨by rw [HW.out, ← HV.out, walkL_has _ _ _ _ _ _ _ _ _ a e pw gl gv ha hB he hpw hgl hgv]; rfl⟩
      have hpU : U pw := hpw ▸ pageW_ok e
      have G1 : Aside0 (∀ W, Calls Try.prog 32 #[.int .u64 (pw : Int), .int .i64 0, .int .i64 12] W fun e' w' => e' = .returned (.int .u64 (gl : Int)) ∧ ∃ m, w' = W.drewN m) := ⟨fun W => by have := get_c pw 0 12 W hpU; rw [← hgl]; exact this⟩
      have G2 : Aside0 (∀ W, Calls Try.prog 32 #[.int .u64 (va : Int), .int .i64 0, .int .i64 12] W fun e' w' => e' = .returned (.int .u64 (gv : Int)) ∧ ∃ m, w' = W.drewN m) := ⟨fun W => by have := get_c va 0 12 W HVa.out; rw [← hgv]; exact this⟩
      have eo : Go.bits .or .u64 (pw : Int) (gv : Int) = ((pw ||| gv : Nat) : Int) := by have := or_c hpU (HVa.out.get 0 12); rw [← hgv]; exact this
      have HPU := Aside0.mk hpU
      generalize pw ||| gv = pv at HS eo
      rw [hpw] at ep ep'
      rw [hpn] at GP ep ep'
      have ew : IntKind.u64.wrap (pw : Int) = (pw : Int) := by have := hpU.1; rw [IntKind.wrap_u64]; omega
      clear ep
      clear ha hB hBt hoff hle he heU haU hgl hgv hpn hpw hpU
      have c3 : wr.cell? ⟨r, 3, none⟩ = some (.int .i64 2) := inv.S.c 3
      have f3 := blk_frozen inv.S.blk 3
      by_cases ho : oddW e = true
      · have HR : Aside0 (walkW M size sp kd md sum mxr va = ⟨0, true, true, 3⟩) := ⟨by rw [HS.out, if_pos ho]; rfl⟩
        rw [ho] at OD
        clear HS HV ho
        go_wp2_with (first
          | (go_at_call 34; refine (PT.out _).mono ?_; rintro e w' ⟨rfl, m1, rfl⟩)
          | (go_at_call 33; refine (LD.out _ (inv.R.drewN _)).mono ?_; rintro e w' ⟨rfl, m2, rfl⟩)
          | (go_at_call 32; refine (GP.out _).mono ?_; rintro e w' ⟨rfl, m3, rfl⟩; clear GP; have inv4 := (WInv.set (rd' := 3) HI.out inv hrk hrh hrw (((Kp.refl wr (fun i => i = r)).drewN (m1 + m2)).setCell (p := ⟨r, 3, none⟩) (.inl rfl) (.int .i64 3)) ⟨blk_set (inv.drewN (m1 + m2)).S.blk 3 (.int .i64 3)⟩).drewN m3)
          | (go_at_call 35; refine (OD.out _).mono ?_; rintro e w4 ⟨rfl, k4⟩; have inv5 := inv4.kpN k4; have c1 := inv5.S.c 1; have c2 := inv5.S.c 2; have f1 := blk_frozen inv5.S.blk 1; have f2 := blk_frozen inv5.S.blk 2; have q1 := blk_set (blk_set inv5.S.blk 1 (.bool true)) 2 (.bool true); have kk := (((Kp.refl w4 (fun i => i = r))).setCell (p := ⟨r, 1, none⟩) (.inl rfl) (.bool true)).setCell (p := ⟨r, 2, none⟩) (.inl rfl) (.bool true); have hH := inv5.H.kp kk hrh)
          | ((with_reducible refine gate_dst (N := 57) rfl ?_); refine wpList_load_row rfl 36 _ rfl r rfl _ ((RS.mk 0 true true 3).cells) (0, 0) _ (q1) Try.underlying36 rfl infoS ?_)
          | ((with_reducible refine gate_store (t := 36) (p := 6) rfl ?_); refine st_ev rfl rfl rfl h ((RS.mk 0 true true 3).cells) _ _ rfl rfl (hH.blk) infoS rfl (RS.one _) ?_; intro wz hs_wz ks_wz))
        refine bodyPost_ret (results_cell_row rfl _ _ h 36 ((RS.mk 0 true true 3).cells) (0, 0) _ rfl (hs_wz) Try.underlying36 rfl infoS) rfl ?_
        rw [HR.out]
        exact ⟨rfl, (inv5.K.then kk fun i hi (e : i = r) => by omega).then ks_wz fun i hi (e : i = h) => by omega⟩
      have ho : oddW e = false := by simpa using ho
      rw [ho] at OD
      have HS : Aside0 (walkW M size sp kd md sum mxr va = if leafW e = false then walkL M size kd md sum mxr va 0 pw else if allowW kd md sum mxr e = false ∨ gl ≠ 0 then badR 0 else ⟨pv, false, false, 3⟩) := ⟨by rw [HS.out, if_neg (by rw [ho]; decide)]⟩
      clear ho
      by_cases hf : leafW e = false
      · have HR : Aside0 (walkL M size kd md sum mxr va 0 pw = walkL M size kd md sum mxr va 3 T0) := ⟨by rw [← HW.out, HS.out, if_pos hf]⟩
        rw [hf] at LF
        clear HS HV hf
        go_wp2_with (first
          | (go_at_call 34; refine (PT.out _).mono ?_; rintro e w' ⟨rfl, m1, rfl⟩)
          | (go_at_call 33; refine (LD.out _ (inv.R.drewN _)).mono ?_; rintro e w' ⟨rfl, m2, rfl⟩)
          | (go_at_call 32; refine (GP.out _).mono ?_; rintro e w' ⟨rfl, m3, rfl⟩; clear GP; have inv4 := (WInv.set (rd' := 3) HI.out inv hrk hrh hrw (((Kp.refl wr (fun i => i = r)).drewN (m1 + m2)).setCell (p := ⟨r, 3, none⟩) (.inl rfl) (.int .i64 3)) ⟨blk_set (inv.drewN (m1 + m2)).S.blk 3 (.int .i64 3)⟩).drewN m3)
          | (go_at_call 35; refine (OD.out _).mono ?_; rintro e w4 ⟨rfl, k4⟩; have inv5 := inv4.kpN k4)
          | (go_at_call 36; refine (LF.out _).mono ?_; rintro e w5 ⟨rfl, m5, rfl⟩; have inv6 := inv5.drewN m5)
          | fail)
        exact ⟨⟨0, 0 - 1, pw, rfl, by decide, rfl, by first | rfl | rw [ew], HPU.out, HR, inv6⟩, by decide⟩
      have HS : Aside0 (walkW M size sp kd md sum mxr va = if allowW kd md sum mxr e = false ∨ gl ≠ 0 then badR 0 else ⟨pv, false, false, 3⟩) := ⟨by rw [HS.out, if_neg hf]⟩
      have hf : leafW e = true := by simpa using hf
      rw [hf] at LF
      clear hf HV
      by_cases hal : allowW kd md sum mxr e = false
      · have HR : Aside0 (walkW M size sp kd md sum mxr va = ⟨0, true, true, 3⟩) := ⟨by rw [HS.out, if_pos (.inl hal)]; rfl⟩
        rw [hal] at AL
        clear HS hal
        go_wp2_with (first
          | (go_at_call 34; refine (PT.out _).mono ?_; rintro e w' ⟨rfl, m1, rfl⟩)
          | (go_at_call 33; refine (LD.out _ (inv.R.drewN _)).mono ?_; rintro e w' ⟨rfl, m2, rfl⟩)
          | (go_at_call 32; refine (GP.out _).mono ?_; rintro e w' ⟨rfl, m3, rfl⟩; clear GP; have inv4 := (WInv.set (rd' := 3) HI.out inv hrk hrh hrw (((Kp.refl wr (fun i => i = r)).drewN (m1 + m2)).setCell (p := ⟨r, 3, none⟩) (.inl rfl) (.int .i64 3)) ⟨blk_set (inv.drewN (m1 + m2)).S.blk 3 (.int .i64 3)⟩).drewN m3)
          | (go_at_call 35; refine (OD.out _).mono ?_; rintro e w4 ⟨rfl, k4⟩; have inv5 := inv4.kpN k4)
          | (go_at_call 36; refine (LF.out _).mono ?_; rintro e w5 ⟨rfl, m5, rfl⟩; have inv6 := inv5.drewN m5)
          | ((with_reducible refine gate_dst (N := 66) rfl ?_); refine wpList_load_row rfl 40 _ rfl k rfl _ (wayC sp kd md sum mxr) (0, 0) _ (inv6.Y.blk) Try.underlying40 rfl infoY ?_)
          | (go_at_call 37; refine (AL.out _).mono ?_; rintro e w6 ⟨rfl, k6⟩; have inv7 := inv6.kpN k6; have c1 := inv7.S.c 1; have c2 := inv7.S.c 2; have f1 := blk_frozen inv7.S.blk 1; have f2 := blk_frozen inv7.S.blk 2; have q1 := blk_set (blk_set inv7.S.blk 1 (.bool true)) 2 (.bool true); have kk := (((Kp.refl w6 (fun i => i = r))).setCell (p := ⟨r, 1, none⟩) (.inl rfl) (.bool true)).setCell (p := ⟨r, 2, none⟩) (.inl rfl) (.bool true); have hH := inv7.H.kp kk hrh)
          | ((with_reducible refine gate_dst (N := 78) rfl ?_); refine wpList_load_row rfl 36 _ rfl r rfl _ ((RS.mk 0 true true 3).cells) (0, 0) _ (q1) Try.underlying36 rfl infoS ?_)
          | ((with_reducible refine gate_store (t := 36) (p := 6) rfl ?_); refine st_ev rfl rfl rfl h ((RS.mk 0 true true 3).cells) _ _ rfl rfl (hH.blk) infoS rfl (RS.one _) ?_; intro wz hs_wz ks_wz))
        refine bodyPost_ret (results_cell_row rfl _ _ h 36 ((RS.mk 0 true true 3).cells) (0, 0) _ rfl (hs_wz) Try.underlying36 rfl infoS) rfl ?_
        rw [HR.out]
        exact ⟨rfl, (inv7.K.then kk fun i hi (e : i = r) => by omega).then ks_wz fun i hi (e : i = h) => by omega⟩
      by_cases hg0 : gl ≠ 0
      · have HR : Aside0 (walkW M size sp kd md sum mxr va = ⟨0, true, true, 3⟩) := ⟨by rw [HS.out, if_pos (.inr hg0)]; rfl⟩
        rw [show allowW kd md sum mxr e = true by simpa using hal] at AL
        clear HS hal
        go_wp2_with (first
          | (go_at_call 34; refine (PT.out _).mono ?_; rintro e w' ⟨rfl, m1, rfl⟩)
          | (go_at_call 33; refine (LD.out _ (inv.R.drewN _)).mono ?_; rintro e w' ⟨rfl, m2, rfl⟩)
          | (go_at_call 32; refine (GP.out _).mono ?_; rintro e w' ⟨rfl, m3, rfl⟩; clear GP; have inv4 := (WInv.set (rd' := 3) HI.out inv hrk hrh hrw (((Kp.refl wr (fun i => i = r)).drewN (m1 + m2)).setCell (p := ⟨r, 3, none⟩) (.inl rfl) (.int .i64 3)) ⟨blk_set (inv.drewN (m1 + m2)).S.blk 3 (.int .i64 3)⟩).drewN m3)
          | (go_at_call 35; refine (OD.out _).mono ?_; rintro e w4 ⟨rfl, k4⟩; have inv5 := inv4.kpN k4)
          | (go_at_call 36; refine (LF.out _).mono ?_; rintro e w5 ⟨rfl, m5, rfl⟩; have inv6 := inv5.drewN m5)
          | ((with_reducible refine gate_dst (N := 66) rfl ?_); refine wpList_load_row rfl 40 _ rfl k rfl _ (wayC sp kd md sum mxr) (0, 0) _ (inv6.Y.blk) Try.underlying40 rfl infoY ?_)
          | (go_at_call 37; refine (AL.out _).mono ?_; rintro e w6 ⟨rfl, k6⟩; have inv7 := inv6.kpN k6)
          | (go_at_call 32; refine (G1.out _).mono ?_; rintro e w7 ⟨rfl, m7, rfl⟩; clear G1; have inv8 := inv7.drewN m7; have c1 := inv8.S.c 1; have c2 := inv8.S.c 2; have f1 := blk_frozen inv8.S.blk 1; have f2 := blk_frozen inv8.S.blk 2; have q1 := blk_set (blk_set inv8.S.blk 1 (.bool true)) 2 (.bool true); have kk := (((Kp.refl w6 (fun i => i = r)).drewN m7).setCell (p := ⟨r, 1, none⟩) (.inl rfl) (.bool true)).setCell (p := ⟨r, 2, none⟩) (.inl rfl) (.bool true); have hH := inv7.H.kp kk hrh)
          | ((with_reducible refine gate_dst (N := 78) rfl ?_); refine wpList_load_row rfl 36 _ rfl r rfl _ ((RS.mk 0 true true 3).cells) (0, 0) _ (q1) Try.underlying36 rfl infoS ?_)
          | ((with_reducible refine gate_store (t := 36) (p := 6) rfl ?_); refine st_ev rfl rfl rfl h ((RS.mk 0 true true 3).cells) _ _ rfl rfl (hH.blk) infoS rfl (RS.one _) ?_; intro wz hs_wz ks_wz))
        refine bodyPost_ret (results_cell_row rfl _ _ h 36 ((RS.mk 0 true true 3).cells) (0, 0) _ rfl (hs_wz) Try.underlying36 rfl infoS) rfl ?_
        rw [HR.out]
        exact ⟨rfl, (inv7.K.then kk fun i hi (e : i = r) => by omega).then ks_wz fun i hi (e : i = h) => by omega⟩
      have HR : Aside0 (walkW M size sp kd md sum mxr va = ⟨pv, false, false, 3⟩) := ⟨by rw [HS.out, if_neg (fun h => h.elim hal hg0)]⟩
      rw [show allowW kd md sum mxr e = true by simpa using hal] at AL
      obtain rfl : gl = 0 := by omega
      clear HS hal hg0
      go_wp2_with (first
          | (go_at_call 34; refine (PT.out _).mono ?_; rintro e w' ⟨rfl, m1, rfl⟩)
          | (go_at_call 33; refine (LD.out _ (inv.R.drewN _)).mono ?_; rintro e w' ⟨rfl, m2, rfl⟩)
          | (go_at_call 32; refine (GP.out _).mono ?_; rintro e w' ⟨rfl, m3, rfl⟩; clear GP; have inv4 := (WInv.set (rd' := 3) HI.out inv hrk hrh hrw (((Kp.refl wr (fun i => i = r)).drewN (m1 + m2)).setCell (p := ⟨r, 3, none⟩) (.inl rfl) (.int .i64 3)) ⟨blk_set (inv.drewN (m1 + m2)).S.blk 3 (.int .i64 3)⟩).drewN m3)
          | (go_at_call 35; refine (OD.out _).mono ?_; rintro e w4 ⟨rfl, k4⟩; have inv5 := inv4.kpN k4)
          | (go_at_call 36; refine (LF.out _).mono ?_; rintro e w5 ⟨rfl, m5, rfl⟩; have inv6 := inv5.drewN m5)
          | ((with_reducible refine gate_dst (N := 66) rfl ?_); refine wpList_load_row rfl 40 _ rfl k rfl _ (wayC sp kd md sum mxr) (0, 0) _ (inv6.Y.blk) Try.underlying40 rfl infoY ?_)
          | (go_at_call 37; refine (AL.out _).mono ?_; rintro e w6 ⟨rfl, k6⟩; have inv7 := inv6.kpN k6)
          | (go_at_call 32; refine (G1.out _).mono ?_; rintro e w7 ⟨rfl, m7, rfl⟩; clear G1; have inv8 := inv7.drewN m7)
          | (go_at_call 32; refine (G2.out _).mono ?_; rintro e w8 ⟨rfl, m8, rfl⟩; clear G2; have inv9 := inv7.drewN (m7 + m8); have c0 := inv9.S.c 0; have f0 := blk_frozen inv9.S.blk 0; have q1 := blk_set inv9.S.blk 0 (.int .u64 (pv : Int)); have kk := ((Kp.refl w6 (fun i => i = r)).drewN (m7 + m8)).setCell (p := ⟨r, 0, none⟩) (.inl rfl) (.int .u64 (pv : Int)); have hH := inv7.H.kp kk hrh)
          | ((with_reducible refine gate_dst (N := 85) rfl ?_); refine wpList_load_row rfl 36 _ rfl r rfl _ ((RS.mk pv false false 3).cells) (0, 0) _ (q1) Try.underlying36 rfl infoS ?_)
          | ((with_reducible refine gate_store (t := 36) (p := 6) rfl ?_); refine st_ev rfl rfl rfl h ((RS.mk pv false false 3).cells) _ _ rfl rfl (hH.blk) infoS rfl (RS.one _) ?_; intro wz hs_wz ks_wz))
      refine bodyPost_ret (results_cell_row rfl _ _ h 36 ((RS.mk pv false false 3).cells) (0, 0) _ rfl (hs_wz) Try.underlying36 rfl infoS) rfl ?_
      rw [HR.out]
      exact ⟨rfl, (inv7.K.then kk fun i hi (e : i = r) => by omega).then ks_wz fun i hi (e : i = h) => by omega⟩
    · obtain rfl : z = 1 := by omega
      clear hz
      have inv : WInv w wr g B n size pg M k r h (wayC sp kd md sum mxr) 1 := inv
      obtain ⟨p9, hp9⟩ : ∃ p9, getW va (12 + 9 * ((1 : Nat) : Int)) 9 = p9 := ⟨_, rfl⟩
      have hp5 : p9 < 512 := by rw [← hp9]; unfold getW; split; exact Nat.mod_lt _ (by decide); decide
      have PT : Aside0 (∀ W, Calls Try.prog 34 #[.int .u64 (va : Int), .int .i64 1] W fun e w' => e = .returned (.int .u64 (p9 : Int)) ∧ ∃ m, w' = W.drewN m) := ⟨fun W => by have := part_c va 1 W HVa.out (by decide); rw [hp9] at this; exact this⟩
      obtain ⟨a, ha⟩ : ∃ a, entA va T 1 = a := ⟨_, rfl⟩
      have haU : U a := ⟨by rw [← ha]; unfold entA; exact Nat.mod_lt _ (by decide)⟩
      have ea : (T + 8 * p9) % 18446744073709551616 = a := by rw [← ha, ← hp9]; rfl
      have e1 : IntKind.u64.wrap (8 * (p9 : Int)) = 8 * (p9 : Int) := by rw [IntKind.wrap_u64]; omega
      have e2 : IntKind.u64.wrap ((T : Int) + 8 * (p9 : Int)) = (a : Int) := by rw [IntKind.wrap_u64]; omega
      clear ea hp9 hp5 hTU
      by_cases hB : hasB size a 8 = false
      · have HR : Aside0 (walkW M size sp kd md sum mxr va = ⟨0, true, false, 1⟩) := ⟨by rw [HW.out, ← HV.out, walkL_fault _ _ _ _ _ _ _ _ _ a ha hB]; rfl⟩
        have LD : Aside0 (∀ W, Rm W g B n size pg M → Calls Try.prog 33 #[.pointer (some ⟨g, 0, none⟩), .int .u64 (a : Int), .int .i64 8] W fun e w' => e = .returned (.tuple #[.int .u64 0, .bool false]) ∧ ∃ m, w' = W.drewN m) := ⟨fun W h => load_no g B n size pg M a W h haU ⟨by omega⟩ hB⟩
        have c1 : wr.cell? ⟨r, 1, none⟩ = some (.bool false) := inv.S.c 1
        have f1 := blk_frozen inv.S.blk 1
        clear ha hB haU hs HV
        go_wp2_with (first
          | (go_at_call 34; refine (PT.out _).mono ?_; rintro e w' ⟨rfl, m1, rfl⟩)
          | (go_at_call 33; refine (LD.out _ (inv.R.drewN _)).mono ?_; rintro e w' ⟨rfl, m2, rfl⟩; have q1 := blk_set (inv.drewN (m1 + m2)).S.blk 1 (.bool true); have kk := ((Kp.refl wr (fun i => i = r)).drewN (m1 + m2)).setCell (p := ⟨r, 1, none⟩) (.inl rfl) (.bool true); have hH := inv.H.kp kk hrh)
          | ((with_reducible refine gate_dst (N := 44) rfl ?_); refine wpList_load_row rfl 36 _ rfl r rfl _ ((RS.mk 0 true false 1).cells) (0, 0) _ (q1) Try.underlying36 rfl infoS ?_)
          | ((with_reducible refine gate_store (t := 36) (p := 6) rfl ?_); refine st_ev rfl rfl rfl h ((RS.mk 0 true false 1).cells) _ _ rfl rfl (hH.blk) infoS rfl (RS.one _) ?_; intro wz hs_wz ks_wz))
        refine bodyPost_ret (results_cell_row rfl _ _ h 36 ((RS.mk 0 true false 1).cells) (0, 0) _ rfl (hs_wz) Try.underlying36 rfl infoS) rfl ?_
        rw [HR.out]
        exact ⟨rfl, (inv.K.then kk fun i hi (e : i = r) => by omega).then ks_wz fun i hi (e : i = h) => by omega⟩
      have hBt : hasB size a 8 = true := by simpa using hB
      obtain ⟨off, hoff, hle⟩ : ∃ off, a = 2147483648 + off ∧ off + 8 ≤ size := by
        have := of_decide_eq_true hBt
        exact ⟨a - 2147483648, by omega, by omega⟩
      obtain ⟨e, he⟩ : ∃ e, ldN M (a - 2147483648) 8 = e := ⟨_, rfl⟩
      have heU : U e := ⟨by rw [← he]; have := ldN_lt inv.R.byt (a - 2147483648) 8; have e8 : (256 : Nat) ^ 8 = 18446744073709551616 := by decide
                            omega⟩
      have LD : Aside0 (∀ W, Rm W g B n size pg M → Calls Try.prog 33 #[.pointer (some ⟨g, 0, none⟩), .int .u64 (a : Int), .int .i64 8] W fun e' w' => e' = .returned (.tuple #[.int .u64 (e : Int), .bool true]) ∧ ∃ m, w' = W.drewN m) := ⟨fun W h => by
        have := load_yes g B n size pg M off W h hle hs; rw [show off = a - 2147483648 by omega, he, show 2147483648 + (a - 2147483648) = a by omega] at this; exact this⟩
      have GP : Aside0 (∀ W, Calls Try.prog 32 #[.int .u64 (e : Int), .int .i64 10, .int .i64 44] W fun e' w' => e' = .returned (.int .u64 ((getW e 10 44 : Nat) : Int)) ∧ ∃ m, w' = W.drewN m) := ⟨fun W => get_c e 10 44 W heU⟩
      have ep : IntKind.u64.wrap (((getW e 10 44 : Nat) : Int) * 4096) = ((pageW e : Nat) : Int) := by have := get44 e 10; unfold pageW; rw [IntKind.wrap_u64]; omega
      have ep' : ((getW e 10 44 : Nat) : Int) * 4096 = ((pageW e : Nat) : Int) := by unfold pageW; simp
      have OD : Aside0 (∀ W, Calls Try.prog 35 #[.int .u64 (e : Int)] W fun e' w' => e' = .returned (.bool (oddW e)) ∧ KpN W w') := ⟨fun W => odd_c e W heU⟩
      have LF : Aside0 (∀ W, Calls Try.prog 36 #[.int .u64 (e : Int)] W fun e' w' => e' = .returned (.bool (leafW e)) ∧ ∃ m, w' = W.drewN m) := ⟨fun W => leaf_c e W heU⟩
      have AL : Aside0 (∀ W, Calls Try.prog 37 #[.agg (wayC sp kd md sum mxr), .int .u64 (e : Int)] W fun e' w' => e' = .returned (.bool (allowW kd md sum mxr e)) ∧ KpN W w') := ⟨fun W => allow_c sp kd md sum mxr e W heU⟩
      obtain ⟨pw, hpw⟩ : ∃ pw, pageW e = pw := ⟨_, rfl⟩
      obtain ⟨gl, hgl⟩ : ∃ gl, getW pw 0 (12 + 9 * ((1 : Nat) : Int)) = gl := ⟨_, rfl⟩
      obtain ⟨gv, hgv⟩ : ∃ gv, getW va 0 (12 + 9 * ((1 : Nat) : Int)) = gv := ⟨_, rfl⟩
      obtain ⟨pn, hpn⟩ : ∃ pn, getW e 10 44 = pn := ⟨_, rfl⟩
      have HS : Aside0 (walkW M size sp kd md sum mxr va = if oddW e = true then badR 1 else if leafW e = false then walkL M size kd md sum mxr va 1 pw else if allowW kd md sum mxr e = false ∨ gl ≠ 0 then badR 1 else ⟨pw ||| gv, false, false, 2⟩) := ⟨by rw [HW.out, ← HV.out, walkL_has _ _ _ _ _ _ _ _ _ a e pw gl gv ha hB he hpw hgl hgv]; rfl⟩
      have hpU : U pw := hpw ▸ pageW_ok e
      have G1 : Aside0 (∀ W, Calls Try.prog 32 #[.int .u64 (pw : Int), .int .i64 0, .int .i64 21] W fun e' w' => e' = .returned (.int .u64 (gl : Int)) ∧ ∃ m, w' = W.drewN m) := ⟨fun W => by have := get_c pw 0 21 W hpU; rw [← hgl]; exact this⟩
      have G2 : Aside0 (∀ W, Calls Try.prog 32 #[.int .u64 (va : Int), .int .i64 0, .int .i64 21] W fun e' w' => e' = .returned (.int .u64 (gv : Int)) ∧ ∃ m, w' = W.drewN m) := ⟨fun W => by have := get_c va 0 21 W HVa.out; rw [← hgv]; exact this⟩
      have eo : Go.bits .or .u64 (pw : Int) (gv : Int) = ((pw ||| gv : Nat) : Int) := by have := or_c hpU (HVa.out.get 0 21); rw [← hgv]; exact this
      have HPU := Aside0.mk hpU
      generalize pw ||| gv = pv at HS eo
      rw [hpw] at ep ep'
      rw [hpn] at GP ep ep'
      have ew : IntKind.u64.wrap (pw : Int) = (pw : Int) := by have := hpU.1; rw [IntKind.wrap_u64]; omega
      clear ep
      clear ha hB hBt hoff hle he heU haU hgl hgv hpn hpw hpU
      have c3 : wr.cell? ⟨r, 3, none⟩ = some (.int .i64 1) := inv.S.c 3
      have f3 := blk_frozen inv.S.blk 3
      by_cases ho : oddW e = true
      · have HR : Aside0 (walkW M size sp kd md sum mxr va = ⟨0, true, true, 2⟩) := ⟨by rw [HS.out, if_pos ho]; rfl⟩
        rw [ho] at OD
        clear HS HV ho
        go_wp2_with (first
          | (go_at_call 34; refine (PT.out _).mono ?_; rintro e w' ⟨rfl, m1, rfl⟩)
          | (go_at_call 33; refine (LD.out _ (inv.R.drewN _)).mono ?_; rintro e w' ⟨rfl, m2, rfl⟩)
          | (go_at_call 32; refine (GP.out _).mono ?_; rintro e w' ⟨rfl, m3, rfl⟩; clear GP; have inv4 := (WInv.set (rd' := 2) HI.out inv hrk hrh hrw (((Kp.refl wr (fun i => i = r)).drewN (m1 + m2)).setCell (p := ⟨r, 3, none⟩) (.inl rfl) (.int .i64 2)) ⟨blk_set (inv.drewN (m1 + m2)).S.blk 3 (.int .i64 2)⟩).drewN m3)
          | (go_at_call 35; refine (OD.out _).mono ?_; rintro e w4 ⟨rfl, k4⟩; have inv5 := inv4.kpN k4; have c1 := inv5.S.c 1; have c2 := inv5.S.c 2; have f1 := blk_frozen inv5.S.blk 1; have f2 := blk_frozen inv5.S.blk 2; have q1 := blk_set (blk_set inv5.S.blk 1 (.bool true)) 2 (.bool true); have kk := (((Kp.refl w4 (fun i => i = r))).setCell (p := ⟨r, 1, none⟩) (.inl rfl) (.bool true)).setCell (p := ⟨r, 2, none⟩) (.inl rfl) (.bool true); have hH := inv5.H.kp kk hrh)
          | ((with_reducible refine gate_dst (N := 57) rfl ?_); refine wpList_load_row rfl 36 _ rfl r rfl _ ((RS.mk 0 true true 2).cells) (0, 0) _ (q1) Try.underlying36 rfl infoS ?_)
          | ((with_reducible refine gate_store (t := 36) (p := 6) rfl ?_); refine st_ev rfl rfl rfl h ((RS.mk 0 true true 2).cells) _ _ rfl rfl (hH.blk) infoS rfl (RS.one _) ?_; intro wz hs_wz ks_wz))
        refine bodyPost_ret (results_cell_row rfl _ _ h 36 ((RS.mk 0 true true 2).cells) (0, 0) _ rfl (hs_wz) Try.underlying36 rfl infoS) rfl ?_
        rw [HR.out]
        exact ⟨rfl, (inv5.K.then kk fun i hi (e : i = r) => by omega).then ks_wz fun i hi (e : i = h) => by omega⟩
      have ho : oddW e = false := by simpa using ho
      rw [ho] at OD
      have HS : Aside0 (walkW M size sp kd md sum mxr va = if leafW e = false then walkL M size kd md sum mxr va 1 pw else if allowW kd md sum mxr e = false ∨ gl ≠ 0 then badR 1 else ⟨pv, false, false, 2⟩) := ⟨by rw [HS.out, if_neg (by rw [ho]; decide)]⟩
      clear ho
      by_cases hf : leafW e = false
      · have HR : Aside0 (walkL M size kd md sum mxr va 1 pw = walkL M size kd md sum mxr va 3 T0) := ⟨by rw [← HW.out, HS.out, if_pos hf]⟩
        rw [hf] at LF
        clear HS HV hf
        go_wp2_with (first
          | (go_at_call 34; refine (PT.out _).mono ?_; rintro e w' ⟨rfl, m1, rfl⟩)
          | (go_at_call 33; refine (LD.out _ (inv.R.drewN _)).mono ?_; rintro e w' ⟨rfl, m2, rfl⟩)
          | (go_at_call 32; refine (GP.out _).mono ?_; rintro e w' ⟨rfl, m3, rfl⟩; clear GP; have inv4 := (WInv.set (rd' := 2) HI.out inv hrk hrh hrw (((Kp.refl wr (fun i => i = r)).drewN (m1 + m2)).setCell (p := ⟨r, 3, none⟩) (.inl rfl) (.int .i64 2)) ⟨blk_set (inv.drewN (m1 + m2)).S.blk 3 (.int .i64 2)⟩).drewN m3)
          | (go_at_call 35; refine (OD.out _).mono ?_; rintro e w4 ⟨rfl, k4⟩; have inv5 := inv4.kpN k4)
          | (go_at_call 36; refine (LF.out _).mono ?_; rintro e w5 ⟨rfl, m5, rfl⟩; have inv6 := inv5.drewN m5)
          | fail)
        exact ⟨⟨1, 1 - 1, pw, rfl, by decide, rfl, by first | rfl | rw [ew], HPU.out, HR, inv6⟩, by decide⟩
      have HS : Aside0 (walkW M size sp kd md sum mxr va = if allowW kd md sum mxr e = false ∨ gl ≠ 0 then badR 1 else ⟨pv, false, false, 2⟩) := ⟨by rw [HS.out, if_neg hf]⟩
      have hf : leafW e = true := by simpa using hf
      rw [hf] at LF
      clear hf HV
      by_cases hal : allowW kd md sum mxr e = false
      · have HR : Aside0 (walkW M size sp kd md sum mxr va = ⟨0, true, true, 2⟩) := ⟨by rw [HS.out, if_pos (.inl hal)]; rfl⟩
        rw [hal] at AL
        clear HS hal
        go_wp2_with (first
          | (go_at_call 34; refine (PT.out _).mono ?_; rintro e w' ⟨rfl, m1, rfl⟩)
          | (go_at_call 33; refine (LD.out _ (inv.R.drewN _)).mono ?_; rintro e w' ⟨rfl, m2, rfl⟩)
          | (go_at_call 32; refine (GP.out _).mono ?_; rintro e w' ⟨rfl, m3, rfl⟩; clear GP; have inv4 := (WInv.set (rd' := 2) HI.out inv hrk hrh hrw (((Kp.refl wr (fun i => i = r)).drewN (m1 + m2)).setCell (p := ⟨r, 3, none⟩) (.inl rfl) (.int .i64 2)) ⟨blk_set (inv.drewN (m1 + m2)).S.blk 3 (.int .i64 2)⟩).drewN m3)
          | (go_at_call 35; refine (OD.out _).mono ?_; rintro e w4 ⟨rfl, k4⟩; have inv5 := inv4.kpN k4)
          | (go_at_call 36; refine (LF.out _).mono ?_; rintro e w5 ⟨rfl, m5, rfl⟩; have inv6 := inv5.drewN m5)
          | ((with_reducible refine gate_dst (N := 66) rfl ?_); refine wpList_load_row rfl 40 _ rfl k rfl _ (wayC sp kd md sum mxr) (0, 0) _ (inv6.Y.blk) Try.underlying40 rfl infoY ?_)
          | (go_at_call 37; refine (AL.out _).mono ?_; rintro e w6 ⟨rfl, k6⟩; have inv7 := inv6.kpN k6; have c1 := inv7.S.c 1; have c2 := inv7.S.c 2; have f1 := blk_frozen inv7.S.blk 1; have f2 := blk_frozen inv7.S.blk 2; have q1 := blk_set (blk_set inv7.S.blk 1 (.bool true)) 2 (.bool true); have kk := (((Kp.refl w6 (fun i => i = r))).setCell (p := ⟨r, 1, none⟩) (.inl rfl) (.bool true)).setCell (p := ⟨r, 2, none⟩) (.inl rfl) (.bool true); have hH := inv7.H.kp kk hrh)
          | ((with_reducible refine gate_dst (N := 78) rfl ?_); refine wpList_load_row rfl 36 _ rfl r rfl _ ((RS.mk 0 true true 2).cells) (0, 0) _ (q1) Try.underlying36 rfl infoS ?_)
          | ((with_reducible refine gate_store (t := 36) (p := 6) rfl ?_); refine st_ev rfl rfl rfl h ((RS.mk 0 true true 2).cells) _ _ rfl rfl (hH.blk) infoS rfl (RS.one _) ?_; intro wz hs_wz ks_wz))
        refine bodyPost_ret (results_cell_row rfl _ _ h 36 ((RS.mk 0 true true 2).cells) (0, 0) _ rfl (hs_wz) Try.underlying36 rfl infoS) rfl ?_
        rw [HR.out]
        exact ⟨rfl, (inv7.K.then kk fun i hi (e : i = r) => by omega).then ks_wz fun i hi (e : i = h) => by omega⟩
      by_cases hg0 : gl ≠ 0
      · have HR : Aside0 (walkW M size sp kd md sum mxr va = ⟨0, true, true, 2⟩) := ⟨by rw [HS.out, if_pos (.inr hg0)]; rfl⟩
        rw [show allowW kd md sum mxr e = true by simpa using hal] at AL
        clear HS hal
        go_wp2_with (first
          | (go_at_call 34; refine (PT.out _).mono ?_; rintro e w' ⟨rfl, m1, rfl⟩)
          | (go_at_call 33; refine (LD.out _ (inv.R.drewN _)).mono ?_; rintro e w' ⟨rfl, m2, rfl⟩)
          | (go_at_call 32; refine (GP.out _).mono ?_; rintro e w' ⟨rfl, m3, rfl⟩; clear GP; have inv4 := (WInv.set (rd' := 2) HI.out inv hrk hrh hrw (((Kp.refl wr (fun i => i = r)).drewN (m1 + m2)).setCell (p := ⟨r, 3, none⟩) (.inl rfl) (.int .i64 2)) ⟨blk_set (inv.drewN (m1 + m2)).S.blk 3 (.int .i64 2)⟩).drewN m3)
          | (go_at_call 35; refine (OD.out _).mono ?_; rintro e w4 ⟨rfl, k4⟩; have inv5 := inv4.kpN k4)
          | (go_at_call 36; refine (LF.out _).mono ?_; rintro e w5 ⟨rfl, m5, rfl⟩; have inv6 := inv5.drewN m5)
          | ((with_reducible refine gate_dst (N := 66) rfl ?_); refine wpList_load_row rfl 40 _ rfl k rfl _ (wayC sp kd md sum mxr) (0, 0) _ (inv6.Y.blk) Try.underlying40 rfl infoY ?_)
          | (go_at_call 37; refine (AL.out _).mono ?_; rintro e w6 ⟨rfl, k6⟩; have inv7 := inv6.kpN k6)
          | (go_at_call 32; refine (G1.out _).mono ?_; rintro e w7 ⟨rfl, m7, rfl⟩; clear G1; have inv8 := inv7.drewN m7; have c1 := inv8.S.c 1; have c2 := inv8.S.c 2; have f1 := blk_frozen inv8.S.blk 1; have f2 := blk_frozen inv8.S.blk 2; have q1 := blk_set (blk_set inv8.S.blk 1 (.bool true)) 2 (.bool true); have kk := (((Kp.refl w6 (fun i => i = r)).drewN m7).setCell (p := ⟨r, 1, none⟩) (.inl rfl) (.bool true)).setCell (p := ⟨r, 2, none⟩) (.inl rfl) (.bool true); have hH := inv7.H.kp kk hrh)
          | ((with_reducible refine gate_dst (N := 78) rfl ?_); refine wpList_load_row rfl 36 _ rfl r rfl _ ((RS.mk 0 true true 2).cells) (0, 0) _ (q1) Try.underlying36 rfl infoS ?_)
          | ((with_reducible refine gate_store (t := 36) (p := 6) rfl ?_); refine st_ev rfl rfl rfl h ((RS.mk 0 true true 2).cells) _ _ rfl rfl (hH.blk) infoS rfl (RS.one _) ?_; intro wz hs_wz ks_wz))
        refine bodyPost_ret (results_cell_row rfl _ _ h 36 ((RS.mk 0 true true 2).cells) (0, 0) _ rfl (hs_wz) Try.underlying36 rfl infoS) rfl ?_
        rw [HR.out]
        exact ⟨rfl, (inv7.K.then kk fun i hi (e : i = r) => by omega).then ks_wz fun i hi (e : i = h) => by omega⟩
      have HR : Aside0 (walkW M size sp kd md sum mxr va = ⟨pv, false, false, 2⟩) := ⟨by rw [HS.out, if_neg (fun h => h.elim hal hg0)]⟩
      rw [show allowW kd md sum mxr e = true by simpa using hal] at AL
      obtain rfl : gl = 0 := by omega
      clear HS hal hg0
      go_wp2_with (first
          | (go_at_call 34; refine (PT.out _).mono ?_; rintro e w' ⟨rfl, m1, rfl⟩)
          | (go_at_call 33; refine (LD.out _ (inv.R.drewN _)).mono ?_; rintro e w' ⟨rfl, m2, rfl⟩)
          | (go_at_call 32; refine (GP.out _).mono ?_; rintro e w' ⟨rfl, m3, rfl⟩; clear GP; have inv4 := (WInv.set (rd' := 2) HI.out inv hrk hrh hrw (((Kp.refl wr (fun i => i = r)).drewN (m1 + m2)).setCell (p := ⟨r, 3, none⟩) (.inl rfl) (.int .i64 2)) ⟨blk_set (inv.drewN (m1 + m2)).S.blk 3 (.int .i64 2)⟩).drewN m3)
          | (go_at_call 35; refine (OD.out _).mono ?_; rintro e w4 ⟨rfl, k4⟩; have inv5 := inv4.kpN k4)
          | (go_at_call 36; refine (LF.out _).mono ?_; rintro e w5 ⟨rfl, m5, rfl⟩; have inv6 := inv5.drewN m5)
          | ((with_reducible refine gate_dst (N := 66) rfl ?_); refine wpList_load_row rfl 40 _ rfl k rfl _ (wayC sp kd md sum mxr) (0, 0) _ (inv6.Y.blk) Try.underlying40 rfl infoY ?_)
          | (go_at_call 37; refine (AL.out _).mono ?_; rintro e w6 ⟨rfl, k6⟩; have inv7 := inv6.kpN k6)
          | (go_at_call 32; refine (G1.out _).mono ?_; rintro e w7 ⟨rfl, m7, rfl⟩; clear G1; have inv8 := inv7.drewN m7)
          | (go_at_call 32; refine (G2.out _).mono ?_; rintro e w8 ⟨rfl, m8, rfl⟩; clear G2; have inv9 := inv7.drewN (m7 + m8); have c0 := inv9.S.c 0; have f0 := blk_frozen inv9.S.blk 0; have q1 := blk_set inv9.S.blk 0 (.int .u64 (pv : Int)); have kk := ((Kp.refl w6 (fun i => i = r)).drewN (m7 + m8)).setCell (p := ⟨r, 0, none⟩) (.inl rfl) (.int .u64 (pv : Int)); have hH := inv7.H.kp kk hrh)
          | ((with_reducible refine gate_dst (N := 85) rfl ?_); refine wpList_load_row rfl 36 _ rfl r rfl _ ((RS.mk pv false false 2).cells) (0, 0) _ (q1) Try.underlying36 rfl infoS ?_)
          | ((with_reducible refine gate_store (t := 36) (p := 6) rfl ?_); refine st_ev rfl rfl rfl h ((RS.mk pv false false 2).cells) _ _ rfl rfl (hH.blk) infoS rfl (RS.one _) ?_; intro wz hs_wz ks_wz))
      refine bodyPost_ret (results_cell_row rfl _ _ h 36 ((RS.mk pv false false 2).cells) (0, 0) _ rfl (hs_wz) Try.underlying36 rfl infoS) rfl ?_
      rw [HR.out]
      exact ⟨rfl, (inv7.K.then kk fun i hi (e : i = r) => by omega).then ks_wz fun i hi (e : i = h) => by omega⟩
    · obtain rfl : z = 2 := by omega
      clear hz
      have inv : WInv w wr g B n size pg M k r h (wayC sp kd md sum mxr) 0 := inv
      obtain ⟨p9, hp9⟩ : ∃ p9, getW va (12 + 9 * ((2 : Nat) : Int)) 9 = p9 := ⟨_, rfl⟩
      have hp5 : p9 < 512 := by rw [← hp9]; unfold getW; split; exact Nat.mod_lt _ (by decide); decide
      have PT : Aside0 (∀ W, Calls Try.prog 34 #[.int .u64 (va : Int), .int .i64 2] W fun e w' => e = .returned (.int .u64 (p9 : Int)) ∧ ∃ m, w' = W.drewN m) := ⟨fun W => by have := part_c va 2 W HVa.out (by decide); rw [hp9] at this; exact this⟩
      obtain ⟨a, ha⟩ : ∃ a, entA va T 2 = a := ⟨_, rfl⟩
      have haU : U a := ⟨by rw [← ha]; unfold entA; exact Nat.mod_lt _ (by decide)⟩
      have ea : (T + 8 * p9) % 18446744073709551616 = a := by rw [← ha, ← hp9]; rfl
      have e1 : IntKind.u64.wrap (8 * (p9 : Int)) = 8 * (p9 : Int) := by rw [IntKind.wrap_u64]; omega
      have e2 : IntKind.u64.wrap ((T : Int) + 8 * (p9 : Int)) = (a : Int) := by rw [IntKind.wrap_u64]; omega
      clear ea hp9 hp5 hTU
      by_cases hB : hasB size a 8 = false
      · have HR : Aside0 (walkW M size sp kd md sum mxr va = ⟨0, true, false, 0⟩) := ⟨by rw [HW.out, ← HV.out, walkL_fault _ _ _ _ _ _ _ _ _ a ha hB]; rfl⟩
        have LD : Aside0 (∀ W, Rm W g B n size pg M → Calls Try.prog 33 #[.pointer (some ⟨g, 0, none⟩), .int .u64 (a : Int), .int .i64 8] W fun e w' => e = .returned (.tuple #[.int .u64 0, .bool false]) ∧ ∃ m, w' = W.drewN m) := ⟨fun W h => load_no g B n size pg M a W h haU ⟨by omega⟩ hB⟩
        have c1 : wr.cell? ⟨r, 1, none⟩ = some (.bool false) := inv.S.c 1
        have f1 := blk_frozen inv.S.blk 1
        clear ha hB haU hs HV
        go_wp2_with (first
          | (go_at_call 34; refine (PT.out _).mono ?_; rintro e w' ⟨rfl, m1, rfl⟩)
          | (go_at_call 33; refine (LD.out _ (inv.R.drewN _)).mono ?_; rintro e w' ⟨rfl, m2, rfl⟩; have q1 := blk_set (inv.drewN (m1 + m2)).S.blk 1 (.bool true); have kk := ((Kp.refl wr (fun i => i = r)).drewN (m1 + m2)).setCell (p := ⟨r, 1, none⟩) (.inl rfl) (.bool true); have hH := inv.H.kp kk hrh)
          | ((with_reducible refine gate_dst (N := 44) rfl ?_); refine wpList_load_row rfl 36 _ rfl r rfl _ ((RS.mk 0 true false 0).cells) (0, 0) _ (q1) Try.underlying36 rfl infoS ?_)
          | ((with_reducible refine gate_store (t := 36) (p := 6) rfl ?_); refine st_ev rfl rfl rfl h ((RS.mk 0 true false 0).cells) _ _ rfl rfl (hH.blk) infoS rfl (RS.one _) ?_; intro wz hs_wz ks_wz))
        refine bodyPost_ret (results_cell_row rfl _ _ h 36 ((RS.mk 0 true false 0).cells) (0, 0) _ rfl (hs_wz) Try.underlying36 rfl infoS) rfl ?_
        rw [HR.out]
        exact ⟨rfl, (inv.K.then kk fun i hi (e : i = r) => by omega).then ks_wz fun i hi (e : i = h) => by omega⟩
      have hBt : hasB size a 8 = true := by simpa using hB
      obtain ⟨off, hoff, hle⟩ : ∃ off, a = 2147483648 + off ∧ off + 8 ≤ size := by
        have := of_decide_eq_true hBt
        exact ⟨a - 2147483648, by omega, by omega⟩
      obtain ⟨e, he⟩ : ∃ e, ldN M (a - 2147483648) 8 = e := ⟨_, rfl⟩
      have heU : U e := ⟨by rw [← he]; have := ldN_lt inv.R.byt (a - 2147483648) 8; have e8 : (256 : Nat) ^ 8 = 18446744073709551616 := by decide
                            omega⟩
      have LD : Aside0 (∀ W, Rm W g B n size pg M → Calls Try.prog 33 #[.pointer (some ⟨g, 0, none⟩), .int .u64 (a : Int), .int .i64 8] W fun e' w' => e' = .returned (.tuple #[.int .u64 (e : Int), .bool true]) ∧ ∃ m, w' = W.drewN m) := ⟨fun W h => by
        have := load_yes g B n size pg M off W h hle hs; rw [show off = a - 2147483648 by omega, he, show 2147483648 + (a - 2147483648) = a by omega] at this; exact this⟩
      have GP : Aside0 (∀ W, Calls Try.prog 32 #[.int .u64 (e : Int), .int .i64 10, .int .i64 44] W fun e' w' => e' = .returned (.int .u64 ((getW e 10 44 : Nat) : Int)) ∧ ∃ m, w' = W.drewN m) := ⟨fun W => get_c e 10 44 W heU⟩
      have ep : IntKind.u64.wrap (((getW e 10 44 : Nat) : Int) * 4096) = ((pageW e : Nat) : Int) := by have := get44 e 10; unfold pageW; rw [IntKind.wrap_u64]; omega
      have ep' : ((getW e 10 44 : Nat) : Int) * 4096 = ((pageW e : Nat) : Int) := by unfold pageW; simp
      have OD : Aside0 (∀ W, Calls Try.prog 35 #[.int .u64 (e : Int)] W fun e' w' => e' = .returned (.bool (oddW e)) ∧ KpN W w') := ⟨fun W => odd_c e W heU⟩
      have LF : Aside0 (∀ W, Calls Try.prog 36 #[.int .u64 (e : Int)] W fun e' w' => e' = .returned (.bool (leafW e)) ∧ ∃ m, w' = W.drewN m) := ⟨fun W => leaf_c e W heU⟩
      have AL : Aside0 (∀ W, Calls Try.prog 37 #[.agg (wayC sp kd md sum mxr), .int .u64 (e : Int)] W fun e' w' => e' = .returned (.bool (allowW kd md sum mxr e)) ∧ KpN W w') := ⟨fun W => allow_c sp kd md sum mxr e W heU⟩
      obtain ⟨pw, hpw⟩ : ∃ pw, pageW e = pw := ⟨_, rfl⟩
      obtain ⟨gl, hgl⟩ : ∃ gl, getW pw 0 (12 + 9 * ((2 : Nat) : Int)) = gl := ⟨_, rfl⟩
      obtain ⟨gv, hgv⟩ : ∃ gv, getW va 0 (12 + 9 * ((2 : Nat) : Int)) = gv := ⟨_, rfl⟩
      obtain ⟨pn, hpn⟩ : ∃ pn, getW e 10 44 = pn := ⟨_, rfl⟩
      have HS : Aside0 (walkW M size sp kd md sum mxr va = if oddW e = true then badR 2 else if leafW e = false then walkL M size kd md sum mxr va 2 pw else if allowW kd md sum mxr e = false ∨ gl ≠ 0 then badR 2 else ⟨pw ||| gv, false, false, 1⟩) := ⟨by rw [HW.out, ← HV.out, walkL_has _ _ _ _ _ _ _ _ _ a e pw gl gv ha hB he hpw hgl hgv]; rfl⟩
      have hpU : U pw := hpw ▸ pageW_ok e
      have G1 : Aside0 (∀ W, Calls Try.prog 32 #[.int .u64 (pw : Int), .int .i64 0, .int .i64 30] W fun e' w' => e' = .returned (.int .u64 (gl : Int)) ∧ ∃ m, w' = W.drewN m) := ⟨fun W => by have := get_c pw 0 30 W hpU; rw [← hgl]; exact this⟩
      have G2 : Aside0 (∀ W, Calls Try.prog 32 #[.int .u64 (va : Int), .int .i64 0, .int .i64 30] W fun e' w' => e' = .returned (.int .u64 (gv : Int)) ∧ ∃ m, w' = W.drewN m) := ⟨fun W => by have := get_c va 0 30 W HVa.out; rw [← hgv]; exact this⟩
      have eo : Go.bits .or .u64 (pw : Int) (gv : Int) = ((pw ||| gv : Nat) : Int) := by have := or_c hpU (HVa.out.get 0 30); rw [← hgv]; exact this
      have HPU := Aside0.mk hpU
      generalize pw ||| gv = pv at HS eo
      rw [hpw] at ep ep'
      rw [hpn] at GP ep ep'
      have ew : IntKind.u64.wrap (pw : Int) = (pw : Int) := by have := hpU.1; rw [IntKind.wrap_u64]; omega
      clear ep
      clear ha hB hBt hoff hle he heU haU hgl hgv hpn hpw hpU
      have c3 : wr.cell? ⟨r, 3, none⟩ = some (.int .i64 0) := inv.S.c 3
      have f3 := blk_frozen inv.S.blk 3
      by_cases ho : oddW e = true
      · have HR : Aside0 (walkW M size sp kd md sum mxr va = ⟨0, true, true, 1⟩) := ⟨by rw [HS.out, if_pos ho]; rfl⟩
        rw [ho] at OD
        clear HS HV ho
        go_wp2_with (first
          | (go_at_call 34; refine (PT.out _).mono ?_; rintro e w' ⟨rfl, m1, rfl⟩)
          | (go_at_call 33; refine (LD.out _ (inv.R.drewN _)).mono ?_; rintro e w' ⟨rfl, m2, rfl⟩)
          | (go_at_call 32; refine (GP.out _).mono ?_; rintro e w' ⟨rfl, m3, rfl⟩; clear GP; have inv4 := (WInv.set (rd' := 1) HI.out inv hrk hrh hrw (((Kp.refl wr (fun i => i = r)).drewN (m1 + m2)).setCell (p := ⟨r, 3, none⟩) (.inl rfl) (.int .i64 1)) ⟨blk_set (inv.drewN (m1 + m2)).S.blk 3 (.int .i64 1)⟩).drewN m3)
          | (go_at_call 35; refine (OD.out _).mono ?_; rintro e w4 ⟨rfl, k4⟩; have inv5 := inv4.kpN k4; have c1 := inv5.S.c 1; have c2 := inv5.S.c 2; have f1 := blk_frozen inv5.S.blk 1; have f2 := blk_frozen inv5.S.blk 2; have q1 := blk_set (blk_set inv5.S.blk 1 (.bool true)) 2 (.bool true); have kk := (((Kp.refl w4 (fun i => i = r))).setCell (p := ⟨r, 1, none⟩) (.inl rfl) (.bool true)).setCell (p := ⟨r, 2, none⟩) (.inl rfl) (.bool true); have hH := inv5.H.kp kk hrh)
          | ((with_reducible refine gate_dst (N := 57) rfl ?_); refine wpList_load_row rfl 36 _ rfl r rfl _ ((RS.mk 0 true true 1).cells) (0, 0) _ (q1) Try.underlying36 rfl infoS ?_)
          | ((with_reducible refine gate_store (t := 36) (p := 6) rfl ?_); refine st_ev rfl rfl rfl h ((RS.mk 0 true true 1).cells) _ _ rfl rfl (hH.blk) infoS rfl (RS.one _) ?_; intro wz hs_wz ks_wz))
        refine bodyPost_ret (results_cell_row rfl _ _ h 36 ((RS.mk 0 true true 1).cells) (0, 0) _ rfl (hs_wz) Try.underlying36 rfl infoS) rfl ?_
        rw [HR.out]
        exact ⟨rfl, (inv5.K.then kk fun i hi (e : i = r) => by omega).then ks_wz fun i hi (e : i = h) => by omega⟩
      have ho : oddW e = false := by simpa using ho
      rw [ho] at OD
      have HS : Aside0 (walkW M size sp kd md sum mxr va = if leafW e = false then walkL M size kd md sum mxr va 2 pw else if allowW kd md sum mxr e = false ∨ gl ≠ 0 then badR 2 else ⟨pv, false, false, 1⟩) := ⟨by rw [HS.out, if_neg (by rw [ho]; decide)]⟩
      clear ho
      by_cases hf : leafW e = false
      · have HR : Aside0 (walkL M size kd md sum mxr va 2 pw = walkL M size kd md sum mxr va 3 T0) := ⟨by rw [← HW.out, HS.out, if_pos hf]⟩
        rw [hf] at LF
        clear HS HV hf
        go_wp2_with (first
          | (go_at_call 34; refine (PT.out _).mono ?_; rintro e w' ⟨rfl, m1, rfl⟩)
          | (go_at_call 33; refine (LD.out _ (inv.R.drewN _)).mono ?_; rintro e w' ⟨rfl, m2, rfl⟩)
          | (go_at_call 32; refine (GP.out _).mono ?_; rintro e w' ⟨rfl, m3, rfl⟩; clear GP; have inv4 := (WInv.set (rd' := 1) HI.out inv hrk hrh hrw (((Kp.refl wr (fun i => i = r)).drewN (m1 + m2)).setCell (p := ⟨r, 3, none⟩) (.inl rfl) (.int .i64 1)) ⟨blk_set (inv.drewN (m1 + m2)).S.blk 3 (.int .i64 1)⟩).drewN m3)
          | (go_at_call 35; refine (OD.out _).mono ?_; rintro e w4 ⟨rfl, k4⟩; have inv5 := inv4.kpN k4)
          | (go_at_call 36; refine (LF.out _).mono ?_; rintro e w5 ⟨rfl, m5, rfl⟩; have inv6 := inv5.drewN m5)
          | fail)
        exact ⟨⟨2, 2 - 1, pw, rfl, by decide, rfl, by first | rfl | rw [ew], HPU.out, HR, inv6⟩, by decide⟩
      have HS : Aside0 (walkW M size sp kd md sum mxr va = if allowW kd md sum mxr e = false ∨ gl ≠ 0 then badR 2 else ⟨pv, false, false, 1⟩) := ⟨by rw [HS.out, if_neg hf]⟩
      have hf : leafW e = true := by simpa using hf
      rw [hf] at LF
      clear hf HV
      by_cases hal : allowW kd md sum mxr e = false
      · have HR : Aside0 (walkW M size sp kd md sum mxr va = ⟨0, true, true, 1⟩) := ⟨by rw [HS.out, if_pos (.inl hal)]; rfl⟩
        rw [hal] at AL
        clear HS hal
        go_wp2_with (first
          | (go_at_call 34; refine (PT.out _).mono ?_; rintro e w' ⟨rfl, m1, rfl⟩)
          | (go_at_call 33; refine (LD.out _ (inv.R.drewN _)).mono ?_; rintro e w' ⟨rfl, m2, rfl⟩)
          | (go_at_call 32; refine (GP.out _).mono ?_; rintro e w' ⟨rfl, m3, rfl⟩; clear GP; have inv4 := (WInv.set (rd' := 1) HI.out inv hrk hrh hrw (((Kp.refl wr (fun i => i = r)).drewN (m1 + m2)).setCell (p := ⟨r, 3, none⟩) (.inl rfl) (.int .i64 1)) ⟨blk_set (inv.drewN (m1 + m2)).S.blk 3 (.int .i64 1)⟩).drewN m3)
          | (go_at_call 35; refine (OD.out _).mono ?_; rintro e w4 ⟨rfl, k4⟩; have inv5 := inv4.kpN k4)
          | (go_at_call 36; refine (LF.out _).mono ?_; rintro e w5 ⟨rfl, m5, rfl⟩; have inv6 := inv5.drewN m5)
          | ((with_reducible refine gate_dst (N := 66) rfl ?_); refine wpList_load_row rfl 40 _ rfl k rfl _ (wayC sp kd md sum mxr) (0, 0) _ (inv6.Y.blk) Try.underlying40 rfl infoY ?_)
          | (go_at_call 37; refine (AL.out _).mono ?_; rintro e w6 ⟨rfl, k6⟩; have inv7 := inv6.kpN k6; have c1 := inv7.S.c 1; have c2 := inv7.S.c 2; have f1 := blk_frozen inv7.S.blk 1; have f2 := blk_frozen inv7.S.blk 2; have q1 := blk_set (blk_set inv7.S.blk 1 (.bool true)) 2 (.bool true); have kk := (((Kp.refl w6 (fun i => i = r))).setCell (p := ⟨r, 1, none⟩) (.inl rfl) (.bool true)).setCell (p := ⟨r, 2, none⟩) (.inl rfl) (.bool true); have hH := inv7.H.kp kk hrh)
          | ((with_reducible refine gate_dst (N := 78) rfl ?_); refine wpList_load_row rfl 36 _ rfl r rfl _ ((RS.mk 0 true true 1).cells) (0, 0) _ (q1) Try.underlying36 rfl infoS ?_)
          | ((with_reducible refine gate_store (t := 36) (p := 6) rfl ?_); refine st_ev rfl rfl rfl h ((RS.mk 0 true true 1).cells) _ _ rfl rfl (hH.blk) infoS rfl (RS.one _) ?_; intro wz hs_wz ks_wz))
        refine bodyPost_ret (results_cell_row rfl _ _ h 36 ((RS.mk 0 true true 1).cells) (0, 0) _ rfl (hs_wz) Try.underlying36 rfl infoS) rfl ?_
        rw [HR.out]
        exact ⟨rfl, (inv7.K.then kk fun i hi (e : i = r) => by omega).then ks_wz fun i hi (e : i = h) => by omega⟩
      by_cases hg0 : gl ≠ 0
      · have HR : Aside0 (walkW M size sp kd md sum mxr va = ⟨0, true, true, 1⟩) := ⟨by rw [HS.out, if_pos (.inr hg0)]; rfl⟩
        rw [show allowW kd md sum mxr e = true by simpa using hal] at AL
        clear HS hal
        go_wp2_with (first
          | (go_at_call 34; refine (PT.out _).mono ?_; rintro e w' ⟨rfl, m1, rfl⟩)
          | (go_at_call 33; refine (LD.out _ (inv.R.drewN _)).mono ?_; rintro e w' ⟨rfl, m2, rfl⟩)
          | (go_at_call 32; refine (GP.out _).mono ?_; rintro e w' ⟨rfl, m3, rfl⟩; clear GP; have inv4 := (WInv.set (rd' := 1) HI.out inv hrk hrh hrw (((Kp.refl wr (fun i => i = r)).drewN (m1 + m2)).setCell (p := ⟨r, 3, none⟩) (.inl rfl) (.int .i64 1)) ⟨blk_set (inv.drewN (m1 + m2)).S.blk 3 (.int .i64 1)⟩).drewN m3)
          | (go_at_call 35; refine (OD.out _).mono ?_; rintro e w4 ⟨rfl, k4⟩; have inv5 := inv4.kpN k4)
          | (go_at_call 36; refine (LF.out _).mono ?_; rintro e w5 ⟨rfl, m5, rfl⟩; have inv6 := inv5.drewN m5)
          | ((with_reducible refine gate_dst (N := 66) rfl ?_); refine wpList_load_row rfl 40 _ rfl k rfl _ (wayC sp kd md sum mxr) (0, 0) _ (inv6.Y.blk) Try.underlying40 rfl infoY ?_)
          | (go_at_call 37; refine (AL.out _).mono ?_; rintro e w6 ⟨rfl, k6⟩; have inv7 := inv6.kpN k6)
          | (go_at_call 32; refine (G1.out _).mono ?_; rintro e w7 ⟨rfl, m7, rfl⟩; clear G1; have inv8 := inv7.drewN m7; have c1 := inv8.S.c 1; have c2 := inv8.S.c 2; have f1 := blk_frozen inv8.S.blk 1; have f2 := blk_frozen inv8.S.blk 2; have q1 := blk_set (blk_set inv8.S.blk 1 (.bool true)) 2 (.bool true); have kk := (((Kp.refl w6 (fun i => i = r)).drewN m7).setCell (p := ⟨r, 1, none⟩) (.inl rfl) (.bool true)).setCell (p := ⟨r, 2, none⟩) (.inl rfl) (.bool true); have hH := inv7.H.kp kk hrh)
          | ((with_reducible refine gate_dst (N := 78) rfl ?_); refine wpList_load_row rfl 36 _ rfl r rfl _ ((RS.mk 0 true true 1).cells) (0, 0) _ (q1) Try.underlying36 rfl infoS ?_)
          | ((with_reducible refine gate_store (t := 36) (p := 6) rfl ?_); refine st_ev rfl rfl rfl h ((RS.mk 0 true true 1).cells) _ _ rfl rfl (hH.blk) infoS rfl (RS.one _) ?_; intro wz hs_wz ks_wz))
        refine bodyPost_ret (results_cell_row rfl _ _ h 36 ((RS.mk 0 true true 1).cells) (0, 0) _ rfl (hs_wz) Try.underlying36 rfl infoS) rfl ?_
        rw [HR.out]
        exact ⟨rfl, (inv7.K.then kk fun i hi (e : i = r) => by omega).then ks_wz fun i hi (e : i = h) => by omega⟩
      have HR : Aside0 (walkW M size sp kd md sum mxr va = ⟨pv, false, false, 1⟩) := ⟨by rw [HS.out, if_neg (fun h => h.elim hal hg0)]⟩
      rw [show allowW kd md sum mxr e = true by simpa using hal] at AL
      obtain rfl : gl = 0 := by omega
      clear HS hal hg0
      go_wp2_with (first
          | (go_at_call 34; refine (PT.out _).mono ?_; rintro e w' ⟨rfl, m1, rfl⟩)
          | (go_at_call 33; refine (LD.out _ (inv.R.drewN _)).mono ?_; rintro e w' ⟨rfl, m2, rfl⟩)
          | (go_at_call 32; refine (GP.out _).mono ?_; rintro e w' ⟨rfl, m3, rfl⟩; clear GP; have inv4 := (WInv.set (rd' := 1) HI.out inv hrk hrh hrw (((Kp.refl wr (fun i => i = r)).drewN (m1 + m2)).setCell (p := ⟨r, 3, none⟩) (.inl rfl) (.int .i64 1)) ⟨blk_set (inv.drewN (m1 + m2)).S.blk 3 (.int .i64 1)⟩).drewN m3)
          | (go_at_call 35; refine (OD.out _).mono ?_; rintro e w4 ⟨rfl, k4⟩; have inv5 := inv4.kpN k4)
          | (go_at_call 36; refine (LF.out _).mono ?_; rintro e w5 ⟨rfl, m5, rfl⟩; have inv6 := inv5.drewN m5)
          | ((with_reducible refine gate_dst (N := 66) rfl ?_); refine wpList_load_row rfl 40 _ rfl k rfl _ (wayC sp kd md sum mxr) (0, 0) _ (inv6.Y.blk) Try.underlying40 rfl infoY ?_)
          | (go_at_call 37; refine (AL.out _).mono ?_; rintro e w6 ⟨rfl, k6⟩; have inv7 := inv6.kpN k6)
          | (go_at_call 32; refine (G1.out _).mono ?_; rintro e w7 ⟨rfl, m7, rfl⟩; clear G1; have inv8 := inv7.drewN m7)
          | (go_at_call 32; refine (G2.out _).mono ?_; rintro e w8 ⟨rfl, m8, rfl⟩; clear G2; have inv9 := inv7.drewN (m7 + m8); have c0 := inv9.S.c 0; have f0 := blk_frozen inv9.S.blk 0; have q1 := blk_set inv9.S.blk 0 (.int .u64 (pv : Int)); have kk := ((Kp.refl w6 (fun i => i = r)).drewN (m7 + m8)).setCell (p := ⟨r, 0, none⟩) (.inl rfl) (.int .u64 (pv : Int)); have hH := inv7.H.kp kk hrh)
          | ((with_reducible refine gate_dst (N := 85) rfl ?_); refine wpList_load_row rfl 36 _ rfl r rfl _ ((RS.mk pv false false 1).cells) (0, 0) _ (q1) Try.underlying36 rfl infoS ?_)
          | ((with_reducible refine gate_store (t := 36) (p := 6) rfl ?_); refine st_ev rfl rfl rfl h ((RS.mk pv false false 1).cells) _ _ rfl rfl (hH.blk) infoS rfl (RS.one _) ?_; intro wz hs_wz ks_wz))
      refine bodyPost_ret (results_cell_row rfl _ _ h 36 ((RS.mk pv false false 1).cells) (0, 0) _ rfl (hs_wz) Try.underlying36 rfl infoS) rfl ?_
      rw [HR.out]
      exact ⟨rfl, (inv7.K.then kk fun i hi (e : i = r) => by omega).then ks_wz fun i hi (e : i = h) => by omega⟩
set_option maxHeartbeats 8000000 in
set_option maxRecDepth 100000 in
theorem walk_c (g B n size : Nat) (pg : Nat → Option Nat) (M : Nat → Nat) (sp : Nat) (kd md : Int) (sum mxr : Bool) (va : Nat) (w : World) (hI : Rm w g B n size pg M) (hs : size ≤ 268435456) (hp : U sp) (hv : U va) :
    Calls Try.prog 12 #[.pointer (some ⟨g, 0, none⟩), .agg (wayC sp kd md sum mxr), .int .u64 (va : Int)] w (wPost w (walkW M size sp kd md sum mxr va)) := by
  by_cases hb : bareW sp md = true
  · exact walk_bare g B n size pg M sp kd md sum mxr va w hI hs hp hv hb
  have hb' : bareW sp md = false := by simpa using hb
  by_cases hq : properW va = false
  · exact walk_notp g B n size pg M sp kd md sum mxr va w hI hs hp hv hb' hq
  · exact walk_tab g B n size pg M sp kd md sum mxr va w hI hs hp hv hb' (by simpa using hq)
end Go.Proofs.Ytlhdildnekllhaa.H
/- The statements of the tables: the page's example. Walked by hand. -/
namespace Go.Proofs.Ytlhdildnekllhaa.H
open Go.RowKit Go.Proofs.YtlhdildnekllhaaW.PrintWords Go.Proofs.YtlhdildnekllhaaW.PrintLast Go.Proofs.Ytlhdildnekllhaa.PAl Go.Proofs.Ytlhdildnekllhaa.Pure Go.Proofs.Ytlhdildnekllhaa.Vw
set_option linter.unusedVariables false
set_option linter.unusedSimpArgs false
theorem leaf_v : sv39_Leaf.f 20 2147483648 false = some 536871119 := by decide +kernel
theorem satp_v : sv39_Satp.f 2147483648 = some 9223372036855300096 := by decide +kernel
def awM : Nat → Nat := stN (fun _ => 0) 16 536871119 8
theorem awake_w : (walkW awM 8192 9223372036855300096 1 1 false false 2147488308).cells = #[.int .u64 2147488308, .bool false, .bool false, .int .i64 1] := by
  have h : (walkW awM 8192 9223372036855300096 1 1 false false 2147488308).addr = 2147488308 ∧ (walkW awM 8192 9223372036855300096 1 1 false false 2147488308).fault = false ∧ (walkW awM 8192 9223372036855300096 1 1 false false 2147488308).page = false ∧ (walkW awM 8192 9223372036855300096 1 1 false false 2147488308).reads = 1 := by decide +kernel
  unfold RS.cells
  rw [h.1, h.2.1, h.2.2.1, h.2.2.2]; rfl
theorem al8 : word_Aligned.f 8192 4096 = some true := by decide +kernel
def awC : Array Value := #[.int .u64 2147488308, .bool false, .bool false, .int .i64 1]
theorem awC_one : awC.all (·.oneCell') = true := by simp [awC, Value.oneCell']
theorem infoS' : (Try.prog.info? ST).map (·.size) = some 4 := infoS
set_option maxHeartbeats 8000000 in
set_option maxRecDepth 100000 in
theorem awake10_c (w : World) :
    Calls Try.prog 8 #[] w fun e w' => e = .returned (.bool true) ∧ KpN w w' := by
  have NW : Aside0 (∀ W, Calls Try.prog 29 #[.int .u64 8192] W fun e w' => ∃ g B, e = .returned (.tuple #[.pointer (some ⟨g, 0, none⟩), .int .i64 0]) ∧ Rm w' g B 0 8192 (fun _ => none) (fun _ => 0) ∧ KpN W w' ∧ W.heap.size ≤ g ∧ W.heap.size ≤ B) := ⟨fun W => new_m 8192 W (by decide) (by decide) al8⟩
  have LE : Aside0 (∀ W, Calls Try.prog 16 #[.int .u64 2147483648, .bool false] W fun e w' => e = .returned (.int .u64 536871119) ∧ KpN W w') := ⟨fun W => (sv39_Leaf.calls 20 _ _ _ W leaf_v).mono fun _ _ q => ⟨q.1, Kp.of_below q.2 _⟩⟩
  have SA : Aside0 (∀ W, Calls Try.prog 17 #[.int .u64 2147483648] W fun e w' => e = .returned (.int .u64 9223372036855300096) ∧ ∃ m, w' = W.drewN m) := ⟨fun W => (sv39_Satp.calls _ _ W satp_v).mono fun _ _ q => ⟨q.1, q.2.out⟩⟩
  have SO : Aside0 (∀ g B W, Rm W g B 0 8192 (fun _ => none) (fun _ => 0) → Calls Try.prog 30 #[.pointer (some ⟨g, 0, none⟩), .int .u64 2147483664, .int .i64 8, .int .u64 536871119] W fun e w' => e = .returned (.bool true) ∧ stPost g B 8 8192 (fun _ => none) awM W w') := ⟨fun g B W h => store_yes g B 0 8192 _ _ 16 536871119 W h (by decide) (by decide) (by decide) U.num⟩
  have WA : Aside0 (∀ g B pg W, Rm W g B 8 8192 pg awM → Calls Try.prog 12 #[.pointer (some ⟨g, 0, none⟩), .agg #[.int .u64 9223372036855300096, .int .i64 1, .int .i64 1, .bool false, .bool false], .int .u64 2147488308] W fun e w' => e = .returned (.agg awC) ∧ KpN W w') := ⟨fun g B pg W h => by
    have := walk_c g B 8 8192 pg awM 9223372036855300096 1 1 false false 2147488308 W h (by decide) U.num U.num
    unfold wPost at this
    rw [awake_w] at this
    exact this⟩
  go_enter Try.func8, Try.ntmps8
  go_wp2_with (first
    | (go_at_call 29; refine (NW.out _).mono ?_; rintro e w1 ⟨g, B, rfl, hR1, hk1, hg, hB⟩; have hg' := Aside0.mk hg; have hB' := Aside0.mk hB; clear hg hB)
    | (go_at_call 16; refine (LE.out _).mono ?_; rintro e w2 ⟨rfl, hk2⟩; have hR2 := hR1.kpN hk2)
    | (go_at_call 30; refine (SO.out g B _ hR2).mono ?_; rintro e w3 ⟨rfl, pg, hR3, hk3, -⟩)
    | (go_at_call 17; refine (SA.out _).mono ?_; rintro e w4 ⟨rfl, m, rfl⟩; have hR4 := hR3.drewN m)
    | (go_at_call 12; refine (WA.out g B pg _ hR4).mono ?_; rintro e w5 ⟨rfl, hk5⟩)
    | ((with_reducible refine gate_dst (N := 3) rfl ?_); refine al_ev rfl rfl (N := 3) rfl _ (zeroS _) ?_; intro r hg_r w6 hb_r hk_r; have Hg_r := Aside0.mk hg_r; clear hg_r)
    | (((with_reducible refine gate_store (t := 36) (p := 3) rfl ?_); refine st_ev rfl rfl rfl r (awC) _ _ rfl rfl (hb_r) infoS rfl (awC_one) ?_; intro w7 hs_w7 ks_w7); have c0 : w7.cell? ⟨r, 0, none⟩ = some (.int .u64 2147488308) := (Bk.mk hs_w7).c 0; have c1 : w7.cell? ⟨r, 1, none⟩ = some (.bool false) := (Bk.mk hs_w7).c 1; have c3 : w7.cell? ⟨r, 3, none⟩ = some (.int .i64 1) := (Bk.mk hs_w7).c 3))
  go_ret
  have K2 := hk1.trans hk2
  have K3 : KpN w w3 := K2.then hk3 fun i hi h => by
    have h1 := hg'.out
    have h2 := hB'.out
    rcases h with h | h | ⟨_, h⟩
    · omega
    · omega
    · cases h
  have K6 : KpN w w6 := ((K3.drewN m).trans hk5).trans hk_r
  exact ⟨rfl, K6.then ks_w7 fun i hi (e : i = r) => by have := Hg_r.out; have := (K3.drewN m).trans hk5 |>.size; omega⟩
end Go.Proofs.Ytlhdildnekllhaa.H
