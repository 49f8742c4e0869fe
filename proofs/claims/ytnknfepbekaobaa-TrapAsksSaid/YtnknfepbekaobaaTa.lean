/- The registers of a hart and the reference's, walked by hand: what each function answers, for every state. -/
import Derived.Test.YtnknfepbekaobaaS0
import Derived.RegionTactic
import Derived.Laws.Tables
import Derived.Deep.MidRow
import Derived.Laws.Rows
import Derived.Outline
import Derived.StillTailTactics
import Derived.Deep.RegionWith
/- Words for proofs by hand: numbers of 64 bits, a row of 23 cells, what a call leaves as it was. -/
namespace Go.Proofs.Ytnknfepbekaobaa.H
open Go.RowKit Go.Proofs.YtnknfepbekaobaaW.PrintWords Go.Proofs.YtnknfepbekaobaaW.PrintLast Go.Proofs.Ytnknfepbekaobaa.PAl Go.Proofs.Ytnknfepbekaobaa.Pure Go.Proofs.Ytnknfepbekaobaa.Vw
set_option linter.unusedVariables false
set_option linter.unusedSimpArgs false

/-- A number of 64 bits (a fact that the walk leaves alone). -/
structure U (x : Nat) : Prop where
  lt : x < 18446744073709551616

/-- What a call leaves as it was: all but the blocks of S. -/
structure Kp (w w' : World) (S : Nat → Prop) : Prop where
  os : w'.os = w.os
  tape : w'.tape = w.tape
  output : w'.output = w.output
  size : w.heap.size ≤ w'.heap.size
  block : ∀ k, k < w.heap.size → ¬ S k → w'.heap[k]? = w.heap[k]?
theorem Kp.refl (w : World) (S : Nat → Prop) : Kp w w S := ⟨rfl, rfl, rfl, Nat.le_refl _, fun _ _ _ => rfl⟩
theorem Kp.trans {a b c : World} {S : Nat → Prop} (h : Kp a b S) (k : Kp b c S) : Kp a c S :=
  ⟨k.os.trans h.os, k.tape.trans h.tape, k.output.trans h.output, Nat.le_trans h.size k.size, fun i hi hS => (k.block i (Nat.lt_of_lt_of_le hi h.size) hS).trans (h.block i hi hS)⟩
theorem Kp.then {a b c : World} {S S' : Nat → Prop} (h : Kp a b S) (k : Kp b c S') (hS : ∀ i, i < a.heap.size → S' i → S i) : Kp a c S :=
  ⟨k.os.trans h.os, k.tape.trans h.tape, k.output.trans h.output, Nat.le_trans h.size k.size, fun i hi hn => (k.block i (Nat.lt_of_lt_of_le hi h.size) fun q => hn (hS i hi q)).trans (h.block i hi hn)⟩
theorem Kp.mono {a b : World} {S T : Nat → Prop} (h : Kp a b S) (hST : ∀ k, k < a.heap.size → S k → T k) : Kp a b T :=
  ⟨h.os, h.tape, h.output, h.size, fun i hi hT => h.block i hi fun hS => hT (hST i hi hS)⟩
theorem Kp.drewN {a b : World} {S : Nat → Prop} (h : Kp a b S) (n : Nat) : Kp a (b.drewN n) S := ⟨h.os, h.tape, h.output, h.size, h.block⟩
theorem Kp.drew {a b : World} {S : Nat → Prop} (h : Kp a b S) : Kp a b.drew S := ⟨h.os, h.tape, h.output, h.size, h.block⟩
theorem Kp.alloc {a b : World} {S : Nat → Prop} (h : Kp a b S) (o : Obj) : Kp a (b.alloc o) S :=
  h.trans ⟨rfl, rfl, rfl, by simp, fun k hk _ => Below.heap_alloc _ _ _ hk⟩
theorem Kp.setCell {a b : World} {S : Nat → Prop} (h : Kp a b S) {p : Addr} (hp : S p.block ∨ a.heap.size ≤ p.block) (u : Value) : Kp a (b.setCell p u) S :=
  ⟨h.os, h.tape, h.output, by simpa [World.setCell] using h.size, fun k hk hS => (Below.heap_setCell _ _ _ _ (fun e => by subst e; rcases hp with hp | hp; exact hS hp; omega)).trans (h.block k hk hS)⟩
theorem Kp.below {a b : World} {S : Nat → Prop} (h : Kp a b S) {B : Nat} (hB : ∀ k, k < a.heap.size → S k → B ≤ k) (hs : B ≤ a.heap.size) : Below B a b :=
  ⟨h.os, h.tape, h.output, h.size, fun k hk => h.block k (by omega) fun hS => by have := hB k (by omega) hS; omega⟩
theorem Kp.of_below {a b : World} (h : Below a.heap.size a b) (S : Nat → Prop) : Kp a b S := ⟨h.os, h.tape, h.output, h.size, fun k hk _ => h.block k hk⟩

/-- A mode and 22 words. -/
structure VS where
  m : Int
  r : Nat → Nat
def VS.ok (s : VS) : Prop := ∀ i, U (s.r i)
def VS.set (s : VS) (j : Nat) (v : Nat) : VS := ⟨s.m, fun i => if i = j then v else s.r i⟩
def VS.mode (s : VS) (m : Int) : VS := ⟨m, s.r⟩
theorem VS.set_ok {s : VS} (h : s.ok) (j : Nat) {v : Nat} (hv : U v) : (s.set j v).ok := by
  intro i; show U (if i = j then v else s.r i); split; exact hv; exact h i
theorem VS.mode_ok {s : VS} (h : s.ok) (m : Int) : (s.mode m).ok := h
theorem VS.ext {a b : VS} (hm : a.m = b.m) (hr : a.r = b.r) : a = b := by cases a; cases b; simp_all
/-- Its cells. -/
def VS.cells (s : VS) : Array Value := #[.int .i64 s.m, .int .u64 (s.r 1 : Int), .int .u64 (s.r 2 : Int), .int .u64 (s.r 3 : Int), .int .u64 (s.r 4 : Int), .int .u64 (s.r 5 : Int), .int .u64 (s.r 6 : Int), .int .u64 (s.r 7 : Int), .int .u64 (s.r 8 : Int), .int .u64 (s.r 9 : Int), .int .u64 (s.r 10 : Int), .int .u64 (s.r 11 : Int), .int .u64 (s.r 12 : Int), .int .u64 (s.r 13 : Int), .int .u64 (s.r 14 : Int), .int .u64 (s.r 15 : Int), .int .u64 (s.r 16 : Int), .int .u64 (s.r 17 : Int), .int .u64 (s.r 18 : Int), .int .u64 (s.r 19 : Int), .int .u64 (s.r 20 : Int), .int .u64 (s.r 21 : Int), .int .u64 (s.r 22 : Int)]
theorem VS.size (s : VS) : s.cells.size = 23 := rfl
theorem VS.at0 (s : VS) : s.cells[0]? = some (.int .i64 s.m) := rfl
theorem VS.at_ (s : VS) (j : Nat) (h1 : 1 ≤ j) (h2 : j ≤ 22) : s.cells[j]? = some (.int .u64 (s.r j : Int)) := by
  rcases j with _ | _ | _ | _ | _ | _ | _ | _ | _ | _ | _ | _ | _ | _ | _ | _ | _ | _ | _ | _ | _ | _ | _ | j
  · omega
  all_goals first | rfl | omega
theorem VS.put0 (s : VS) (m : Int) : s.cells.setIfInBounds 0 (.int .i64 m) = (s.mode m).cells := rfl
theorem VS.put_ (s : VS) (j : Nat) (h1 : 1 ≤ j) (h2 : j ≤ 22) (v : Nat) : s.cells.setIfInBounds j (.int .u64 (v : Int)) = (s.set j v).cells := by
  rcases j with _ | _ | _ | _ | _ | _ | _ | _ | _ | _ | _ | _ | _ | _ | _ | _ | _ | _ | _ | _ | _ | _ | _ | j
  · omega
  all_goals first | rfl | omega
/-- Block g holds it. -/
structure St (T : TypeId) (w : World) (g : Nat) (s : VS) : Prop where
  blk : w.heap[g]? = some (.cells s.cells T (0, 0))
theorem St.c0 {T w g s} (h : St T w g s) : w.cell? ⟨g, 0, none⟩ = some (.int .i64 s.m) := (blk_cell h.blk 0).trans (VS.at0 s)
theorem St.c {T w g s} (h : St T w g s) (j : Nat) (h1 : 1 ≤ j := by decide) (h2 : j ≤ 22 := by decide) : w.cell? ⟨g, j, none⟩ = some (.int .u64 (s.r j : Int)) := (blk_cell h.blk j).trans (VS.at_ s j h1 h2)
theorem St.f {T w g s} (h : St T w g s) (j : Nat) : w.frozen? ⟨g, j, none⟩ = false := blk_frozen h.blk j
theorem St.drewN {T w g s} (h : St T w g s) (n : Nat) : St T (w.drewN n) g s := ⟨h.blk⟩
theorem St.drew {T w g s} (h : St T w g s) : St T w.drew g s := ⟨h.blk⟩
theorem St.lt {T w g s} (h : St T w g s) : g < w.heap.size := blk_lt h.blk
theorem St.alloc {T w g s} (h : St T w g s) (o : Obj) : St T (w.alloc o) g s := ⟨blk_alloc h.blk o⟩
theorem St.set0 {T w g s} (h : St T w g s) (m : Int) : St T (w.setCell ⟨g, 0, none⟩ (.int .i64 m)) g (s.mode m) := ⟨by rw [← VS.put0]; exact blk_set h.blk 0 _⟩
theorem St.set {T w g s} (h : St T w g s) (j : Nat) (v : Nat) (h1 : 1 ≤ j := by decide) (h2 : j ≤ 22 := by decide) : St T (w.setCell ⟨g, j, none⟩ (.int .u64 (v : Int))) g (s.set j v) := ⟨by rw [← VS.put_ s j h1 h2]; exact blk_set h.blk j _⟩
theorem St.far {T w g s} (h : St T w g s) {p : Addr} (hp : g ≠ p.block) (u : Value) : St T (w.setCell p u) g s := ⟨(Below.heap_setCell _ _ _ _ hp).trans h.blk⟩
theorem St.kp {T w g s w'} {S : Nat → Prop} (h : St T w g s) (k : Kp w w' S) (hS : ¬ S g) : St T w' g s := ⟨(k.block g h.lt hS).trans h.blk⟩
theorem St.new (T : TypeId) (w : World) (s : VS) : St T (w.alloc (.cells s.cells T)) w.heap.size s := ⟨by simpa using heap_alloc_new w _⟩

/-! whole structs: made, stored -/
section
variable {P : Program} {ops : Array Oper} {rest : List Oper} {o : Oper} {a : Act} {Q : Exit → Act → World → Prop}
theorem setRow_blk {W : World} {g : Nat} {old cs : Array Value} {t : TypeId} (hg : W.heap[g]? = some (.cells old t (0, 0))) : (W.setRow g cs).heap[g]? = some (.cells cs t (0, 0)) := by
  simp [World.setRow, Array.getElem?_modify, hg]
theorem Kp.setRow {W w : World} {S : Nat → Prop} (h : Kp W w S) (g : Nat) (cs : Array Value) (hg : S g ∨ W.heap.size ≤ g) : Kp W (w.setRow g cs) S :=
  ⟨h.os, h.tape, h.output, by simpa using h.size, fun k hk hS => by
    have hne : g ≠ k := by rintro rfl; rcases hg with hg | hg; exact hS hg; omega
    rw [← h.block k hk hS]; simp [World.setRow, Array.getElem?_modify, hne]⟩
theorem st_ev {W : World} (hgd : o.guard = none) {ty : TypeId} {x y : Operand} (ho : o.op = .store ty x y) (hN : o.dst = none) (g : Nat) (cs old : Array Value) (t : TypeId)
    (hx : a.eval x = .pointer (some ⟨g, 0, none⟩)) (hy : a.eval y = .agg cs) (hg : W.heap[g]? = some (.cells old t (0, 0))) (hi : (P.info? ty).map (·.size) = some cs.size)
    (hold : old.size = cs.size) (h1 : cs.all (·.oneCell') = true)
    (h : ∀ w1, w1.heap[g]? = some (.cells cs t (0, 0)) → Kp W w1 (fun i => i = g) → wpList P ops Q rest a w1) : wpList P ops Q (o :: rest) a W :=
  wpList_plain hgd fun K hK => wp_store_row ty x y ho g cs hx hy t old hg hi hold h1 (by rw [hN]; exact hK _ _ (h _ (setRow_blk hg) ((Kp.refl _ _).setRow g cs (.inl rfl))))
theorem bx_ev {W : World} (hgd : o.guard = none) {t : TypeId} {x : Operand} (ho : o.op = .box t x) {N : Tmp} (_hd : o.dst = some N) (cs : Array Value) (hx : a.eval x = .agg cs)
    (h : ∀ g, g = W.heap.size → ∀ w1, w1.heap[g]? = some (.cells cs t (0, 0)) → Kp W w1 (fun _ => False) → wpList P ops Q rest (a.put o.dst (.pointer (some ⟨g, 0, none⟩))) w1) : wpList P ops Q (o :: rest) a W := by
  refine wpList_plain hgd fun K hK => ?_
  have hrun : (execOp a.eval o).run P W = .ok (.value (.pointer (some ⟨W.heap.size, 0, none⟩))) (W.alloc (.cells cs t (0, 0))) := by
    unfold execOp
    simp only [ho, hx]
    rfl
  unfold Oper.wp
  rw [hrun]
  exact hK _ _ (h _ rfl _ (by simpa using heap_alloc_new W _) ((Kp.refl _ _).alloc _))
theorem al_ev {W : World} (hgd : o.guard = none) {t : TypeId} (ho : o.op = .alloc t) {N : Tmp} (_hd : o.dst = some N) (cs : Array Value) 
    (hz : (zeroValue t).run P W = .ok (.agg cs) W)
    (h : ∀ g, g = W.heap.size → ∀ w1, w1.heap[g]? = some (.cells cs t (0, 0)) → Kp W w1 (fun _ => False) → wpList P ops Q rest (a.put o.dst (.pointer (some ⟨g, 0, none⟩))) w1) : wpList P ops Q (o :: rest) a W := by
  refine wpList_plain hgd fun K hK => ?_
  have hrun : (execOp a.eval o).run P W = .ok (.value (.pointer (some ⟨W.heap.size, 0, none⟩))) (W.alloc (.cells cs t (0, 0))) := by
    unfold execOp
    simp only [ho, Instr.alloc, Sem.run_bind, hz, Result.andThen_ok]
    rfl
  unfold Oper.wp
  rw [hrun]
  exact hK _ _ (h _ rfl _ (by simpa using heap_alloc_new W _) ((Kp.refl _ _).alloc _))
theorem VS.one (s : VS) : s.cells.all (·.oneCell') = true := by unfold VS.cells; simp [Value.oneCell']
end
/-! the leaves -/
theorem get_c (x : Nat) (a n : Int) (w : World) (hx : U x) : Calls Try.prog 57 #[.int .u64 (x : Int), .int .i64 a, .int .i64 n] w fun e w' => e = .returned (.int .u64 ((getW x a n : Nat) : Int)) ∧ ∃ m, w' = w.drewN m :=
  (word_Get.calls _ _ _ _ w (word_Get_is x a n hx.lt)).mono fun e w' h => ⟨h.1, h.2.out⟩
theorem put_c (x : Nat) (a n : Int) (v : Nat) (w : World) (hx : U x) (hv : U v) : Calls Try.prog 58 #[.int .u64 (x : Int), .int .i64 a, .int .i64 n, .int .u64 (v : Int)] w fun e w' => e = .returned (.int .u64 ((putW x a n v : Nat) : Int)) ∧ ∃ m, w' = w.drewN m :=
  (word_Put.calls _ _ _ _ _ w (word_Put_is x a n v hx.lt hv.lt)).mono fun e w' h => ⟨h.1, h.2.out⟩
def bitW (x : Nat) (a : Int) : Bool := decide (0 ≤ a ∧ a ≤ 63) && x.testBit a.toNat
theorem bit_c (x : Nat) (a : Int) (w : World) (hx : U x) : Calls Try.prog 37 #[.int .u64 (x : Int), .int .i64 a] w fun e w' => e = .returned (.bool (bitW x a)) ∧ ∃ m, w' = w.drewN m :=
  (word_Bit.calls _ _ _ w (word_Bit_is x a hx.lt)).mono fun e w' h => ⟨h.1, h.2.out⟩
theorem U.get {x : Nat} (h : U x) (a n : Int) : U (getW x a n) := ⟨getW_lt h.lt a n⟩
theorem U.put {x : Nat} (h : U x) (a n : Int) (v : Nat) : U (putW x a n v) := ⟨putW_lt h.lt a n v⟩
theorem U.and {x y : Nat} (h : U x) : U (x &&& y) := ⟨and_lt h.lt⟩
theorem U.or {x y : Nat} (h : U x) (k : U y) : U (x ||| y) := ⟨or_lt h.lt k.lt⟩
/-- x without the bits of y -/
def minus (x y : Nat) : Nat := x &&& (18446744073709551615 - y)
theorem U.minus {x y : Nat} (h : U x) : U (minus x y) := ⟨and_lt h.lt⟩
theorem and_c {x y : Nat} (h : U x) (k : U y) : Go.bits .and .u64 (x : Int) (y : Int) = ((x &&& y : Nat) : Int) := and_nat x y h.lt k.lt
theorem or_c {x y : Nat} (h : U x) (k : U y) : Go.bits .or .u64 (x : Int) (y : Int) = ((x ||| y : Nat) : Int) := or_nat x y h.lt k.lt
theorem minus_c {x y : Nat} (h : U x) (k : U y) : Go.bits .andNot .u64 (x : Int) (y : Int) = ((minus x y : Nat) : Int) := andNot_nat x y h.lt k.lt
theorem U.num {n : Nat} (h : n < 18446744073709551616 := by decide) : U n := ⟨h⟩
end Go.Proofs.Ytnknfepbekaobaa.H
/- The hart's registers (package csr), walked by hand: what each method answers, and what it leaves. -/
namespace Go.Proofs.Ytnknfepbekaobaa.H
open Go.RowKit Go.Proofs.YtnknfepbekaobaaW.PrintWords Go.Proofs.YtnknfepbekaobaaW.PrintLast Go.Proofs.Ytnknfepbekaobaa.PAl Go.Proofs.Ytnknfepbekaobaa.Pure Go.Proofs.Ytnknfepbekaobaa.Vw
set_option linter.unusedVariables false
set_option linter.unusedSimpArgs false
abbrev FT : TypeId := 31

def superW (n : Int) : Nat :=
  if n = 261 then 13 else if n = 262 then 14 else if n = 320 then 15 else if n = 321 then 16 else if n = 322 then 17 else if n = 323 then 18 else if n = 384 then 19 else if n = 3073 then 22 else 0
def placeW (n : Int) : Nat :=
  if n = 770 then 2 else if n = 771 then 3 else if n = 772 then 4 else if n = 773 then 7 else if n = 774 then 8 else if n = 832 then 9 else if n = 833 then 10 else if n = 834 then 11 else if n = 835 then 12 else if n = 2816 ∨ n = 3072 then 20 else if n = 2818 ∨ n = 3074 then 21 else superW n
theorem superW_le (n : Int) : superW n ≤ 22 := by
  unfold superW; repeat' split
  all_goals decide
theorem placeW_le (n : Int) : placeW n ≤ 22 := by
  unfold placeW; repeat' split
  all_goals first | exact superW_le n | decide
def ptrO (g : Nat) : Nat → Value
  | 0 => .pointer none
  | k + 1 => .pointer (some ⟨g, k + 1, none⟩)
set_option maxHeartbeats 8000000 in
set_option maxRecDepth 100000 in
theorem super_c (g : Nat) (n : Int) (w : World) :
    Calls Try.prog 62 #[.pointer (some ⟨g, 0, none⟩), .int .i64 n] w fun e w' => e = .returned (ptrO g (superW n)) ∧ w' = w := by
  go_enter Try.func62, Try.ntmps62
  go_wp2
  all_goals go_ret
  all_goals (refine ⟨congrArg Ending.returned ?_, rfl⟩; simp only [beq_iff_eq, beq_eq_false_iff_ne] at *; simp [superW, ptrO, *])
set_option maxHeartbeats 8000000 in
set_option maxRecDepth 100000 in
theorem place_c (g : Nat) (n : Int) (w : World) :
    Calls Try.prog 52 #[.pointer (some ⟨g, 0, none⟩), .int .i64 n] w fun e w' => e = .returned (ptrO g (placeW n)) ∧ w' = w := by
  go_enter Try.func52, Try.ntmps52
  go_wp2_with (go_at_call 62; refine (super_c _ _ _).mono ?_; rintro e w' ⟨rfl, rfl⟩)
  all_goals go_ret
  all_goals (refine ⟨congrArg Ending.returned ?_, rfl⟩; simp only [beq_iff_eq, beq_eq_false_iff_ne] at *; simp [placeW, ptrO, *])
theorem place_nil (g : Nat) (n : Int) (w : World) (h : placeW n = 0) :
    Calls Try.prog 52 #[.pointer (some ⟨g, 0, none⟩), .int .i64 n] w fun e w' => e = .returned (.pointer none) ∧ w' = w :=
  (place_c g n w).mono fun e w' ⟨h1, h2⟩ => ⟨by rw [h1, h]; rfl, h2⟩
theorem place_some (g : Nat) (n : Int) (w : World) (p : Nat) (h : placeW n = p) (hp : 1 ≤ p) :
    Calls Try.prog 52 #[.pointer (some ⟨g, 0, none⟩), .int .i64 n] w fun e w' => e = .returned (.pointer (some ⟨g, p, none⟩)) ∧ w' = w :=
  (place_c g n w).mono fun e w' ⟨h1, h2⟩ => ⟨by rw [h1, h]; obtain ⟨k, rfl⟩ : ∃ k, p = k + 1 := ⟨p - 1, by omega⟩; rfl, h2⟩
theorem or_l {x n : Nat} (h : U x) (k : n < 18446744073709551616 := by decide) : Go.bits .or .u64 (x : Int) (@OfNat.ofNat Int n _) = ((x ||| n : Nat) : Int) := or_nat x n h.lt k
theorem and_l {x n : Nat} (h : U x) (k : n < 18446744073709551616 := by decide) : Go.bits .and .u64 (x : Int) (@OfNat.ofNat Int n _) = ((x &&& n : Nat) : Int) := and_nat x n h.lt k
theorem minus_l {x n : Nat} (h : U x) (k : n < 18446744073709551616 := by decide) : Go.bits .andNot .u64 (x : Int) (@OfNat.ofNat Int n _) = ((minus x n : Nat) : Int) := andNot_nat x n h.lt k

def pendW (s : VS) : Nat := s.r 5 ||| s.r 6
theorem pend_ok {s : VS} (h : s.ok) : U (pendW s) := (h 5).or (h 6)
set_option maxHeartbeats 8000000 in
theorem pending_c (g : Nat) (s : VS) (w : World) (hI : St FT w g s) (hs : s.ok) :
    Calls Try.prog 19 #[.pointer (some ⟨g, 0, none⟩)] w fun e w' => e = .returned (.int .u64 ((pendW s : Nat) : Int)) ∧ ∃ m, w' = w.drewN m := by
  have c5 := hI.c 5
  have c6 := hI.c 6
  go_enter Try.func19, Try.ntmps19
  go_wp2
  repeat (go_quiet (fail); try go_wp2)
  go_ret
  exact ⟨congrArg (fun z => Ending.returned (.int .u64 z)) (or_c (hs 5) (hs 6)), _, rfl⟩
set_option maxHeartbeats 8000000 in
theorem is_c (g : Nat) (s : VS) (b : Int) (w : World) (hI : St FT w g s) (hs : s.ok) :
    Calls Try.prog 20 #[.pointer (some ⟨g, 0, none⟩), .int .i64 b] w fun e w' => e = .returned (.bool (bitW (s.r 1) b)) ∧ ∃ m, w' = w.drewN m := by
  have c1 := hI.c 1
  go_enter Try.func20, Try.ntmps20
  go_wp2_with (go_at_call 37; refine (bit_c _ _ _ (hs 1)).mono ?_; rintro e w' ⟨rfl, m, rfl⟩)
  go_ret
  exact ⟨rfl, _, rfl⟩

def readW (s : VS) (n : Int) : Nat :=
  if n = 768 then s.r 1 ||| 42949672960 else if n = 256 then (s.r 1 &&& 786722) ||| 8589934592 else if n = 769 then 9223372036856090881
  else if n = 836 then pendW s else if n = 324 then pendW s &&& s.r 3 else if n = 260 then s.r 4 &&& s.r 3 else if placeW n = 0 then 0 else s.r (placeW n)
theorem readW_ok {s : VS} (h : s.ok) (n : Int) : U (readW s n) := by
  unfold readW; repeat' split
  · exact (h 1).or U.num
  · exact (h 1).and.or U.num
  · exact U.num
  · exact pend_ok h
  · exact (pend_ok h).and
  · exact (h 4).and
  · exact U.num
  · exact h _
def rawW (s : VS) (n : Int) : Nat :=
  if n = 836 then s.r 5 ||| minus (s.r 6) 546 else if n = 324 then (s.r 5 ||| minus (s.r 6) 546) &&& s.r 3 else readW s n
/-- The status with other bits. -/
def statusW (s : VS) (w mask : Nat) : VS :=
  if getW w 11 2 = 2 then s.set 1 (minus (s.r 1) (minus mask 6144) ||| (w &&& minus mask 6144)) else s.set 1 (minus (s.r 1) mask ||| (w &&& mask))
theorem statusW_ok {s : VS} (h : s.ok) {w : Nat} (hw : U w) (mask : Nat) : (statusW s w mask).ok := by
  unfold statusW; split
  · exact VS.set_ok h _ ((h 1).minus.or hw.and)
  · exact VS.set_ok h _ ((h 1).minus.or hw.and)
theorem nat_beq (a : Nat) (b : Nat) : (((a : Nat) : Int) == ((b : Nat) : Int)) = (a == b) := by
  rw [Bool.eq_iff_iff, beq_iff_eq, beq_iff_eq]; omega
set_option maxHeartbeats 8000000 in
set_option maxRecDepth 100000 in
theorem status_c (g : Nat) (s : VS) (x mask : Nat) (w : World) (hI : St FT w g s) (hs : s.ok) (hx : U x) (hm : U mask) :
    Calls Try.prog 51 #[.pointer (some ⟨g, 0, none⟩), .int .u64 (x : Int), .int .u64 (mask : Int)] w fun e w' => e = .returned (.tuple #[]) ∧ St FT w' g (statusW s x mask) ∧ Kp w w' (fun i => i = g) := by
  have c1 := hI.c 1
  have f1 := hI.f 1
  by_cases hg : getW x 11 2 = 2
  · have hb : (((getW x 11 2 : Nat) : Int) == 2) = true := by rw [hg]; rfl
    have e1 : Go.bits .andNot .u64 (mask : Int) 6144 = ((minus mask 6144 : Nat) : Int) := minus_l hm
    have e2 : Go.bits .andNot .u64 (s.r 1 : Int) ((minus mask 6144 : Nat) : Int) = ((minus (s.r 1) (minus mask 6144) : Nat) : Int) := minus_c (hs 1) hm.minus
    have e3 : Go.bits .and .u64 (x : Int) ((minus mask 6144 : Nat) : Int) = ((x &&& minus mask 6144 : Nat) : Int) := and_c hx hm.minus
    have e4 := or_c (hs 1).minus (y := x &&& minus mask 6144) hx.and (x := minus (s.r 1) (minus mask 6144))
    have Hg := Aside0.mk hg
    clear hg
    go_enter Try.func51, Try.ntmps51
    go_wp2_with (go_at_call 57; refine (get_c _ _ _ _ hx).mono ?_; rintro e w' ⟨rfl, m, rfl⟩)
    repeat (go_region; try go_wp2)
    first | go_end0 | ((try simp only [Exit.inBlock, Exit.then]); refine bodyPost_ret (results_none rfl _ _ _) rfl ?_)
    exact ⟨rfl, by unfold statusW; rw [if_pos Hg.out]; exact (by repeat (first | with_reducible exact hI | apply St.drewN | apply St.drew | apply St.alloc | refine St.set0 ?_ _ | refine St.set ?_ _ _)), (by repeat (first | with_reducible exact Kp.refl _ _ | apply Kp.drewN | apply Kp.drew | apply Kp.alloc | refine Kp.setCell ?_ (by first | exact .inl rfl | omega) _))⟩
  · have hb : (((getW x 11 2 : Nat) : Int) == 2) = false := by rw [beq_eq_false_iff_ne]; omega
    have e2 : Go.bits .andNot .u64 (s.r 1 : Int) (mask : Int) = ((minus (s.r 1) mask : Nat) : Int) := minus_c (hs 1) hm
    have e3 : Go.bits .and .u64 (x : Int) (mask : Int) = ((x &&& mask : Nat) : Int) := and_c hx hm
    have e4 := or_c (hs 1).minus (y := x &&& mask) hx.and (x := minus (s.r 1) mask)
    have Hg := Aside0.mk hg
    clear hg
    go_enter Try.func51, Try.ntmps51
    go_wp2_with (go_at_call 57; refine (get_c _ _ _ _ hx).mono ?_; rintro e w' ⟨rfl, m, rfl⟩)
    repeat (go_region; try go_wp2)
    first | go_end0 | ((try simp only [Exit.inBlock, Exit.then]); refine bodyPost_ret (results_none rfl _ _ _) rfl ?_)
    exact ⟨rfl, by unfold statusW; rw [if_neg Hg.out]; exact (by repeat (first | with_reducible exact hI | apply St.drewN | apply St.drew | apply St.alloc | refine St.set0 ?_ _ | refine St.set ?_ _ _)), (by repeat (first | with_reducible exact Kp.refl _ _ | apply Kp.drewN | apply Kp.drew | apply Kp.alloc | refine Kp.setCell ?_ (by first | exact .inl rfl | omega) _))⟩

def vectorW (old w : Nat) : Nat := if w &&& 2 = 0 then w else old
set_option maxHeartbeats 8000000 in
set_option maxRecDepth 100000 in
theorem vector_c (old x : Nat) (w : World) (hx : U x) :
    Calls Try.prog 63 #[.int .u64 (old : Int), .int .u64 (x : Int)] w fun e w' => e = .returned (.int .u64 ((vectorW old x : Nat) : Int)) ∧ w' = w := by
  have e1 : Go.bits .and .u64 (x : Int) 2 = ((x &&& 2 : Nat) : Int) := and_l hx
  by_cases hg : x &&& 2 = 0
  · have hb : ((((x &&& 2 : Nat) : Int)) != 0) = false := by rw [hg]; rfl
    have Hg := Aside0.mk hg
    clear hg
    go_enter Try.func63, Try.ntmps63
    go_wp2
    go_ret
    exact ⟨by unfold vectorW; rw [if_pos Hg.out] <;> rfl, rfl⟩
  · have hb : ((((x &&& 2 : Nat) : Int)) != 0) = true := by rw [bne_iff_ne]; omega
    have Hg := Aside0.mk hg
    clear hg
    go_enter Try.func63, Try.ntmps63
    go_wp2
    go_ret
    exact ⟨by unfold vectorW; rw [if_neg Hg.out] <;> rfl, rfl⟩
theorem vectorW_ok {old x : Nat} (h : U old) (k : U x) : U (vectorW old x) := by unfold vectorW; split; exact k; exact h

def legalW (n : Int) (old w : Nat) : Nat :=
  if n = 770 then w &&& 46079 else if n = 771 then w &&& 546 else if n = 772 then w &&& 2730 else if n = 773 ∨ n = 261 then vectorW old w
  else if n = 774 ∨ n = 262 then w &&& 7 else if n = 833 ∨ n = 321 then minus w 3 else if n = 384 then (if getW w 60 4 = 0 ∨ getW w 60 4 = 8 then w else old) else w
theorem legalW_ok (n : Int) {old x : Nat} (h : U old) (k : U x) : U (legalW n old x) := by
  unfold legalW; repeat' split
  all_goals first | exact k.and | exact k.minus | exact k | exact h | exact vectorW_ok h k
set_option maxHeartbeats 8000000 in
set_option maxRecDepth 100000 in
theorem legal_c (n : Int) (old x : Nat) (w : World) (hx : U x) :
    Calls Try.prog 53 #[.int .i64 n, .int .u64 (old : Int), .int .u64 (x : Int)] w fun e w' => e = .returned (.int .u64 ((legalW n old x : Nat) : Int)) ∧ ∃ m, w' = w.drewN m := by
  have e1 : Go.bits .and .u64 (x : Int) 46079 = ((x &&& 46079 : Nat) : Int) := and_l hx
  have e2 : Go.bits .and .u64 (x : Int) 546 = ((x &&& 546 : Nat) : Int) := and_l hx
  have e3 : Go.bits .and .u64 (x : Int) 2730 = ((x &&& 2730 : Nat) : Int) := and_l hx
  have e4 : Go.bits .and .u64 (x : Int) 7 = ((x &&& 7 : Nat) : Int) := and_l hx
  have e5 : Go.bits .andNot .u64 (x : Int) 3 = ((minus x 3 : Nat) : Int) := minus_l hx
  by_cases h0 : getW x 60 4 = 0
  · have b0 : (((getW x 60 4 : Nat) : Int) != 0) = false := by rw [h0]; rfl
    have H0 := Aside0.mk h0
    clear h0
    go_enter Try.func53, Try.ntmps53
    go_wp2_with (first | (go_at_call 57; refine (get_c _ _ _ _ hx).mono ?_; rintro e w' ⟨rfl, m, rfl⟩) | (go_at_call 63; refine (vector_c _ _ _ hx).mono ?_; rintro e w' ⟨rfl, rfl⟩))
    all_goals (try (repeat (go_quiet (fail); try go_wp2)))
    all_goals go_ret
    all_goals (have h0 := H0.out; refine ⟨congrArg Ending.returned ?_, (by first | exact ⟨_, rfl⟩ | exact ⟨0, rfl⟩)⟩; simp only [beq_iff_eq, beq_eq_false_iff_ne] at *; simp [legalW, *])
  · by_cases h8 : getW x 60 4 = 8
    · have b0 : (((getW x 60 4 : Nat) : Int) != 0) = true := by rw [h8]; rfl
      have b8 : (((getW x 60 4 : Nat) : Int) != 8) = false := by rw [h8]; rfl
      have H0 := Aside0.mk h0
      have H8 := Aside0.mk h8
      clear h0 h8
      go_enter Try.func53, Try.ntmps53
      go_wp2_with (first | (go_at_call 57; refine (get_c _ _ _ _ hx).mono ?_; rintro e w' ⟨rfl, m, rfl⟩) | (go_at_call 63; refine (vector_c _ _ _ hx).mono ?_; rintro e w' ⟨rfl, rfl⟩))
      all_goals (try (repeat (go_quiet (fail); try go_wp2)))
      all_goals go_ret
      all_goals (have h8 := H8.out; refine ⟨congrArg Ending.returned ?_, (by first | exact ⟨_, rfl⟩ | exact ⟨0, rfl⟩)⟩; simp only [beq_iff_eq, beq_eq_false_iff_ne] at *; simp [legalW, *])
    · have b0 : (((getW x 60 4 : Nat) : Int) != 0) = true := by rw [bne_iff_ne]; omega
      have b8 : (((getW x 60 4 : Nat) : Int) != 8) = true := by rw [bne_iff_ne]; omega
      have H0 := Aside0.mk h0
      have H8 := Aside0.mk h8
      clear h0 h8
      go_enter Try.func53, Try.ntmps53
      go_wp2_with (first | (go_at_call 57; refine (get_c _ _ _ _ hx).mono ?_; rintro e w' ⟨rfl, m, rfl⟩) | (go_at_call 63; refine (vector_c _ _ _ hx).mono ?_; rintro e w' ⟨rfl, rfl⟩))
      all_goals (try (repeat (go_quiet (fail); try go_wp2)))
      all_goals go_ret
      all_goals (have h0 := H0.out; have h8 := H8.out; refine ⟨congrArg Ending.returned ?_, (by first | exact ⟨_, rfl⟩ | exact ⟨0, rfl⟩)⟩; simp only [beq_iff_eq, beq_eq_false_iff_ne] at *; simp [legalW, *])
end Go.Proofs.Ytnknfepbekaobaa.H
/- The hart's registers (package csr), walked by hand: the methods that write, and who may. -/
namespace Go.Proofs.Ytnknfepbekaobaa.H
open Go.RowKit Go.Proofs.YtnknfepbekaobaaW.PrintWords Go.Proofs.YtnknfepbekaobaaW.PrintLast Go.Proofs.Ytnknfepbekaobaa.PAl Go.Proofs.Ytnknfepbekaobaa.Pure Go.Proofs.Ytnknfepbekaobaa.Vw
set_option linter.unusedVariables false
set_option linter.unusedSimpArgs false
abbrev KpG (w w' : World) (g : Nat) : Prop := Kp w w' (fun i => i = g)
theorem beq_no {n k : Int} (h : n ≠ k) : (n == k) = false := beq_eq_false_iff_ne.2 h
theorem status_l (g : Nat) (s : VS) (x n : Nat) (w : World) (hI : St FT w g s) (hs : s.ok) (hx : U x) (hm : n < 18446744073709551616) :
    Calls Try.prog 51 #[.pointer (some ⟨g, 0, none⟩), .int .u64 (x : Int), .int .u64 (@OfNat.ofNat Int n instOfNat)] w fun e w' => e = .returned (.tuple #[]) ∧ St FT w' g (statusW s x n) ∧ Kp w w' (fun i => i = g) :=
  status_c g s x n w hI hs hx ⟨hm⟩
def ownW (s : VS) : Nat := s.r 3 &&& 2
def writeW (s : VS) (n : Int) (x : Nat) : VS :=
  if n = 768 then statusW s x 8264106 else if n = 256 then statusW s x 786722 else if n = 836 then s.set 5 (x &&& 546)
  else if n = 324 then s.set 5 (minus (s.r 5) (ownW s) ||| (x &&& ownW s)) else if n = 260 then s.set 4 (minus (s.r 4) (s.r 3) ||| (x &&& s.r 3))
  else if n = 3072 ∨ n = 3073 ∨ n = 3074 then s else if placeW n = 0 then s else s.set (placeW n) (legalW n (s.r (placeW n)) x)
theorem writeW_ok {s : VS} (h : s.ok) (n : Int) {x : Nat} (hx : U x) : (writeW s n x).ok := by
  unfold writeW; repeat' split
  · exact statusW_ok h hx _
  · exact statusW_ok h hx _
  · exact VS.set_ok h _ hx.and
  · exact VS.set_ok h _ ((h 5).minus.or hx.and)
  · exact VS.set_ok h _ ((h 4).minus.or hx.and)
  · exact h
  · exact h
  · exact VS.set_ok h _ (legalW_ok n (h _) hx)
set_option maxHeartbeats 8000000 in
set_option maxRecDepth 100000 in
theorem write_c1 (g : Nat) (s : VS) (x : Nat) (w : World) (hI : St FT w g s) (hs : s.ok) (hx : U x) :
    Calls Try.prog 33 #[.pointer (some ⟨g, 0, none⟩), .int .i64 768, .int .u64 (x : Int)] w fun e w' => e = .returned (.tuple #[]) ∧ St FT w' g (writeW s 768 x) ∧ KpG w w' g := by
  go_enter Try.func33, Try.ntmps33
  go_wp2_with (go_at_call 51; refine (status_l _ s _ _ _ hI hs hx (by decide)).mono ?_; rintro e w' ⟨rfl, hS, hK⟩)
  first | go_end0 | ((try simp only [Exit.inBlock, Exit.then]); refine bodyPost_ret (results_none rfl _ _ _) rfl ?_)
  exact ⟨rfl, hS, hK⟩
set_option maxHeartbeats 8000000 in
set_option maxRecDepth 100000 in
theorem write_c2 (g : Nat) (s : VS) (x : Nat) (w : World) (hI : St FT w g s) (hs : s.ok) (hx : U x) :
    Calls Try.prog 33 #[.pointer (some ⟨g, 0, none⟩), .int .i64 256, .int .u64 (x : Int)] w fun e w' => e = .returned (.tuple #[]) ∧ St FT w' g (writeW s 256 x) ∧ KpG w w' g := by
  go_enter Try.func33, Try.ntmps33
  go_wp2_with (go_at_call 51; refine (status_l _ s _ _ _ hI hs hx (by decide)).mono ?_; rintro e w' ⟨rfl, hS, hK⟩)
  first | go_end0 | ((try simp only [Exit.inBlock, Exit.then]); refine bodyPost_ret (results_none rfl _ _ _) rfl ?_)
  exact ⟨rfl, hS, hK⟩
set_option maxHeartbeats 8000000 in
set_option maxRecDepth 100000 in
theorem write_c3 (g : Nat) (s : VS) (x : Nat) (w : World) (hI : St FT w g s) (hs : s.ok) (hx : U x) :
    Calls Try.prog 33 #[.pointer (some ⟨g, 0, none⟩), .int .i64 836, .int .u64 (x : Int)] w fun e w' => e = .returned (.tuple #[]) ∧ St FT w' g (writeW s 836 x) ∧ KpG w w' g := by
  have f5 := hI.f 5
  have c5 := hI.c 5
  have e1 : Go.bits .and .u64 (x : Int) 546 = ((x &&& 546 : Nat) : Int) := and_l hx
  go_enter Try.func33, Try.ntmps33
  go_wp2
  repeat (go_region; try go_wp2)
  first | go_end0 | ((try simp only [Exit.inBlock, Exit.then]); refine bodyPost_ret (results_none rfl _ _ _) rfl ?_)
  exact ⟨rfl, (by repeat (first | with_reducible exact hI | apply St.drewN | apply St.drew | apply St.alloc | refine St.set0 ?_ _ | refine St.set ?_ _ _)), (by repeat (first | with_reducible exact Kp.refl _ _ | apply Kp.drewN | apply Kp.drew | apply Kp.alloc | refine Kp.setCell ?_ (by first | exact .inl rfl | omega) _))⟩
set_option maxHeartbeats 8000000 in
set_option maxRecDepth 100000 in
theorem write_c4 (g : Nat) (s : VS) (x : Nat) (w : World) (hI : St FT w g s) (hs : s.ok) (hx : U x) :
    Calls Try.prog 33 #[.pointer (some ⟨g, 0, none⟩), .int .i64 324, .int .u64 (x : Int)] w fun e w' => e = .returned (.tuple #[]) ∧ St FT w' g (writeW s 324 x) ∧ KpG w w' g := by
  have f5 := hI.f 5
  have c5 := hI.c 5
  have c3 := hI.c 3
  have ho : U (ownW s) := (hs 3).and
  have e0 : Go.bits .and .u64 (s.r 3 : Int) 2 = ((ownW s : Nat) : Int) := and_l (hs 3)
  have e1 : Go.bits .andNot .u64 (s.r 5 : Int) ((ownW s : Nat) : Int) = ((minus (s.r 5) (ownW s) : Nat) : Int) := minus_c (hs 5) ho
  have e2 : Go.bits .and .u64 (x : Int) ((ownW s : Nat) : Int) = ((x &&& ownW s : Nat) : Int) := and_c hx ho
  have e3 := or_c (x := minus (s.r 5) (ownW s)) (y := x &&& ownW s) (hs 5).minus hx.and
  go_enter Try.func33, Try.ntmps33
  go_wp2
  repeat (go_region; try go_wp2)
  first | go_end0 | ((try simp only [Exit.inBlock, Exit.then]); refine bodyPost_ret (results_none rfl _ _ _) rfl ?_)
  exact ⟨rfl, (by repeat (first | with_reducible exact hI | apply St.drewN | apply St.drew | apply St.alloc | refine St.set0 ?_ _ | refine St.set ?_ _ _)), (by repeat (first | with_reducible exact Kp.refl _ _ | apply Kp.drewN | apply Kp.drew | apply Kp.alloc | refine Kp.setCell ?_ (by first | exact .inl rfl | omega) _))⟩
set_option maxHeartbeats 8000000 in
set_option maxRecDepth 100000 in
theorem write_c5 (g : Nat) (s : VS) (x : Nat) (w : World) (hI : St FT w g s) (hs : s.ok) (hx : U x) :
    Calls Try.prog 33 #[.pointer (some ⟨g, 0, none⟩), .int .i64 260, .int .u64 (x : Int)] w fun e w' => e = .returned (.tuple #[]) ∧ St FT w' g (writeW s 260 x) ∧ KpG w w' g := by
  have f4 := hI.f 4
  have c4 := hI.c 4
  have c3 := hI.c 3
  have e1 : Go.bits .andNot .u64 (s.r 4 : Int) (s.r 3 : Int) = ((minus (s.r 4) (s.r 3) : Nat) : Int) := minus_c (hs 4) (hs 3)
  have e2 : Go.bits .and .u64 (x : Int) (s.r 3 : Int) = ((x &&& s.r 3 : Nat) : Int) := and_c hx (hs 3)
  have e3 := or_c (x := minus (s.r 4) (s.r 3)) (y := x &&& s.r 3) (hs 4).minus hx.and
  go_enter Try.func33, Try.ntmps33
  go_wp2
  repeat (go_region; try go_wp2)
  first | go_end0 | ((try simp only [Exit.inBlock, Exit.then]); refine bodyPost_ret (results_none rfl _ _ _) rfl ?_)
  exact ⟨rfl, (by repeat (first | with_reducible exact hI | apply St.drewN | apply St.drew | apply St.alloc | refine St.set0 ?_ _ | refine St.set ?_ _ _)), (by repeat (first | with_reducible exact Kp.refl _ _ | apply Kp.drewN | apply Kp.drew | apply Kp.alloc | refine Kp.setCell ?_ (by first | exact .inl rfl | omega) _))⟩
set_option maxHeartbeats 8000000 in
set_option maxRecDepth 100000 in
theorem write_c6 (g : Nat) (s : VS) (n : Int) (x : Nat) (w : World) (hI : St FT w g s) (hn : n = 3072 ∨ n = 3073 ∨ n = 3074) :
    Calls Try.prog 33 #[.pointer (some ⟨g, 0, none⟩), .int .i64 n, .int .u64 (x : Int)] w fun e w' => e = .returned (.tuple #[]) ∧ St FT w' g (writeW s n x) ∧ KpG w w' g := by
  rcases hn with rfl | rfl | rfl
  all_goals
    go_enter Try.func33, Try.ntmps33
    go_wp2
    first | go_end0 | ((try simp only [Exit.inBlock, Exit.then]); refine bodyPost_ret (results_none rfl _ _ _) rfl ?_)
    exact ⟨rfl, by rw [show writeW s _ x = s from rfl]; exact hI, Kp.refl _ _⟩
set_option maxHeartbeats 8000000 in
set_option maxRecDepth 100000 in
theorem write_c7 (g : Nat) (s : VS) (n : Int) (x : Nat) (w : World) (hI : St FT w g s) (hs : s.ok) (hx : U x) (h1 : n ≠ 768) (h2 : n ≠ 256) (h3 : n ≠ 836) (h4 : n ≠ 324) (h5 : n ≠ 260) (h6 : ¬ (n = 3072 ∨ n = 3073 ∨ n = 3074)) :
    Calls Try.prog 33 #[.pointer (some ⟨g, 0, none⟩), .int .i64 n, .int .u64 (x : Int)] w fun e w' => e = .returned (.tuple #[]) ∧ St FT w' g (writeW s n x) ∧ KpG w w' g := by
  have b1 := beq_no h1
  have b2 := beq_no h2
  have b3 := beq_no h3
  have b4 := beq_no h4
  have b5 := beq_no h5
  have b6 := beq_no (show n ≠ 3072 from fun e => h6 (.inl e))
  have b7 := beq_no (show n ≠ 3073 from fun e => h6 (.inr (.inl e)))
  have b8 := beq_no (show n ≠ 3074 from fun e => h6 (.inr (.inr e)))
  have HW : Aside0 (writeW s n x = if placeW n = 0 then s else s.set (placeW n) (legalW n (s.r (placeW n)) x)) := ⟨by
    unfold writeW; rw [if_neg h1, if_neg h2, if_neg h3, if_neg h4, if_neg h5, if_neg h6]⟩
  clear h1 h2 h3 h4 h5 h6
  by_cases hp : placeW n = 0
  · go_enter Try.func33, Try.ntmps33
    go_wp2_with (go_at_call 52; refine (place_nil _ _ _ hp).mono ?_; rintro e w' ⟨rfl, rfl⟩)
    first | go_end0 | ((try simp only [Exit.inBlock, Exit.then]); refine bodyPost_ret (results_none rfl _ _ _) rfl ?_)
    exact ⟨rfl, by rw [HW.out, if_pos hp]; exact hI, Kp.refl _ _⟩
  · obtain ⟨p, hpe⟩ : ∃ p, placeW n = p := ⟨_, rfl⟩
    have hp1 : 1 ≤ p := by omega
    have hp2 : p ≤ 22 := by have := placeW_le n; omega
    have cp := hI.c p hp1 hp2
    have fp := hI.f p
    have Hpe := Aside0.mk hpe
    clear hpe hp
    go_enter Try.func33, Try.ntmps33
    go_wp2_with (first | (go_at_call 52; refine (place_some _ _ _ p Hpe.out hp1).mono ?_; rintro e w' ⟨rfl, rfl⟩) | (go_at_call 53; refine (legal_c _ _ _ _ hx).mono ?_; rintro e w' ⟨rfl, m, rfl⟩))
    first | go_end0 | ((try simp only [Exit.inBlock, Exit.then]); refine bodyPost_ret (results_none rfl _ _ _) rfl ?_)
    exact ⟨rfl, by rw [HW.out, Hpe.out, if_neg (by omega)]; exact (hI.drewN m).set p _ hp1 hp2, (by repeat (first | with_reducible exact Kp.refl _ _ | apply Kp.drewN | apply Kp.drew | apply Kp.alloc | refine Kp.setCell ?_ (by first | exact .inl rfl | omega) _))⟩
theorem write_c (g : Nat) (s : VS) (n : Int) (x : Nat) (w : World) (hI : St FT w g s) (hs : s.ok) (hx : U x) :
    Calls Try.prog 33 #[.pointer (some ⟨g, 0, none⟩), .int .i64 n, .int .u64 (x : Int)] w fun e w' => e = .returned (.tuple #[]) ∧ St FT w' g (writeW s n x) ∧ KpG w w' g := by
  by_cases h1 : n = 768
  · subst h1; exact write_c1 g s x w hI hs hx
  by_cases h2 : n = 256
  · subst h2; exact write_c2 g s x w hI hs hx
  by_cases h3 : n = 836
  · subst h3; exact write_c3 g s x w hI hs hx
  by_cases h4 : n = 324
  · subst h4; exact write_c4 g s x w hI hs hx
  by_cases h5 : n = 260
  · subst h5; exact write_c5 g s x w hI hs hx
  by_cases h6 : n = 3072 ∨ n = 3073 ∨ n = 3074
  · exact write_c6 g s n x w hI h6
  · exact write_c7 g s n x w hI hs hx h1 h2 h3 h4 h5 h6
end Go.Proofs.Ytnknfepbekaobaa.H
/- The hart's registers (package csr), walked by hand: lines, bits of the status, who may, names. -/
namespace Go.Proofs.Ytnknfepbekaobaa.H
open Go.RowKit Go.Proofs.YtnknfepbekaobaaW.PrintWords Go.Proofs.YtnknfepbekaobaaW.PrintLast Go.Proofs.Ytnknfepbekaobaa.PAl Go.Proofs.Ytnknfepbekaobaa.Pure Go.Proofs.Ytnknfepbekaobaa.Vw
set_option linter.unusedVariables false
set_option linter.unusedSimpArgs false
set_option maxHeartbeats 8000000 in
set_option maxRecDepth 100000 in
theorem hold_c (g : Nat) (s : VS) (x : Nat) (w : World) (hI : St FT w g s) (hx : U x) :
    Calls Try.prog 35 #[.pointer (some ⟨g, 0, none⟩), .int .u64 (x : Int)] w fun e w' => e = .returned (.tuple #[]) ∧ St FT w' g (s.set 6 (x &&& 2696)) ∧ KpG w w' g := by
  have f6 := hI.f 6
  have c6 := hI.c 6
  have e1 : Go.bits .and .u64 (x : Int) 2696 = ((x &&& 2696 : Nat) : Int) := and_l hx
  go_enter Try.func35, Try.ntmps35
  go_wp2
  repeat (go_region; try go_wp2)
  first | go_end0 | ((try simp only [Exit.inBlock, Exit.then]); refine bodyPost_ret (results_none rfl _ _ _) rfl ?_)
  exact ⟨rfl, (by repeat (first | with_reducible exact hI | apply St.drewN | apply St.drew | apply St.alloc | refine St.set0 ?_ _ | refine St.set ?_ _ _)), (by repeat (first | with_reducible exact Kp.refl _ _ | apply Kp.drewN | apply Kp.drew | apply Kp.alloc | refine Kp.setCell ?_ (by first | exact .inl rfl | omega) _))⟩
def setW (s : VS) (b : Nat) (is : Bool) : VS := s.set 1 (if is then s.r 1 ||| 2 ^ b else minus (s.r 1) (2 ^ b))
theorem U.pow {b : Nat} (h : b ≤ 63) : U (2 ^ b) := ⟨Nat.lt_of_le_of_lt (Nat.pow_le_pow_right (by decide) h) (by decide)⟩
theorem setW_ok {s : VS} (h : s.ok) {b : Nat} (hb : b ≤ 63) (is : Bool) : (setW s b is).ok := by
  unfold setW; apply VS.set_ok h; cases is
  · exact (h 1).minus
  · exact (h 1).or (U.pow hb)
set_option maxHeartbeats 8000000 in
set_option maxRecDepth 100000 in
theorem set_c (g : Nat) (s : VS) (b : Nat) (is : Bool) (w : World) (hI : St FT w g s) (hs : s.ok) (hb : b ≤ 63) :
    Calls Try.prog 40 #[.pointer (some ⟨g, 0, none⟩), .int .i64 (b : Int), .bool is] w fun e w' => e = .returned (.tuple #[]) ∧ St FT w' g (setW s b is) ∧ KpG w w' g := by
  have f1 := hI.f 1
  have c1 := hI.c 1
  have hb0 : (0 : Int) ≤ (b : Int) := by omega
  have hb1 : ¬ (b : Int) < 0 := by omega
  have pw : IntKind.u64.wrap ((2 : Int) ^ b) = ((2 ^ b : Nat) : Int) := by
    rw [show ((2 : Int) ^ b) = ((2 ^ b : Nat) : Int) by simp]; exact u64_nat _ (U.pow hb).lt
  have e1 := minus_c (hs 1) (U.pow hb)
  have e2 := or_c (hs 1) (U.pow hb)
  rw [← pw] at e1 e2
  clear pw
  cases is
  · clear e2
    go_enter Try.func40, Try.ntmps40
    go_wp2
    repeat (go_region; try go_wp2)
    first | go_end0 | ((try simp only [Exit.inBlock, Exit.then]); refine bodyPost_ret (results_none rfl _ _ _) rfl ?_)
    exact ⟨rfl, (by repeat (first | with_reducible exact hI | apply St.drewN | apply St.drew | apply St.alloc | refine St.set0 ?_ _ | refine St.set ?_ _ _)), (by repeat (first | with_reducible exact Kp.refl _ _ | apply Kp.drewN | apply Kp.drew | apply Kp.alloc | refine Kp.setCell ?_ (by first | exact .inl rfl | omega) _))⟩
  · clear e1
    go_enter Try.func40, Try.ntmps40
    go_wp2
    repeat (go_region; try go_wp2)
    first | go_end0 | ((try simp only [Exit.inBlock, Exit.then]); refine bodyPost_ret (results_none rfl _ _ _) rfl ?_)
    exact ⟨rfl, (by repeat (first | with_reducible exact hI | apply St.drewN | apply St.drew | apply St.alloc | refine St.set0 ?_ _ | refine St.set ?_ _ _)), (by repeat (first | with_reducible exact Kp.refl _ _ | apply Kp.drewN | apply Kp.drew | apply Kp.alloc | refine Kp.setCell ?_ (by first | exact .inl rfl | omega) _))⟩
set_option maxHeartbeats 8000000 in
set_option maxRecDepth 100000 in
theorem previous_c (g : Nat) (s : VS) (w : World) (hI : St FT w g s) (hs : s.ok) :
    Calls Try.prog 49 #[.pointer (some ⟨g, 0, none⟩)] w fun e w' => e = .returned (.int .i64 ((getW (s.r 1) 11 2 : Nat) : Int)) ∧ ∃ m, w' = w.drewN m := by
  have c1 := hI.c 1
  have hl : getW (s.r 1) 11 2 < 4 := by
    unfold getW; rw [if_pos (by decide)]; exact Nat.mod_lt _ (by decide)
  have e1 : wrap64 ((getW (s.r 1) 11 2 : Nat) : Int) = ((getW (s.r 1) 11 2 : Nat) : Int) := by unfold wrap64; omega
  go_enter Try.func49, Try.ntmps49
  go_wp2_with (go_at_call 57; refine (get_c _ _ _ _ (hs 1)).mono ?_; rintro e w' ⟨rfl, m, rfl⟩)
  go_ret
  exact ⟨rfl, (by first | exact ⟨_, rfl⟩ | exact ⟨0, rfl⟩)⟩
def keepW (s : VS) (m : Nat) : VS := s.set 1 (putW (s.r 1) 11 2 m)
set_option maxHeartbeats 8000000 in
set_option maxRecDepth 100000 in
theorem keep_c (g : Nat) (s : VS) (k : Nat) (w : World) (hI : St FT w g s) (hs : s.ok) (hk : k ≤ 3) :
    Calls Try.prog 42 #[.pointer (some ⟨g, 0, none⟩), .int .i64 (k : Int)] w fun e w' => e = .returned (.tuple #[]) ∧ St FT w' g (keepW s k) ∧ KpG w w' g := by
  have f1 := hI.f 1
  have c1 := hI.c 1
  have hu : U k := ⟨by omega⟩
  have e1 : IntKind.u64.wrap (k : Int) = (k : Int) := u64_nat k hu.lt
  go_enter Try.func42, Try.ntmps42
  go_wp2_with (go_at_call 58; refine (put_c _ _ _ _ _ (hs 1) hu).mono ?_; rintro e w' ⟨rfl, m, rfl⟩)
  first | go_end0 | ((try simp only [Exit.inBlock, Exit.then]); refine bodyPost_ret (results_none rfl _ _ _) rfl ?_)
  exact ⟨rfl, (by repeat (first | with_reducible exact hI | apply St.drewN | apply St.drew | apply St.alloc | refine St.set0 ?_ _ | refine St.set ?_ _ _)), (by repeat (first | with_reducible exact Kp.refl _ _ | apply Kp.drewN | apply Kp.drew | apply Kp.alloc | refine Kp.setCell ?_ (by first | exact .inl rfl | omega) _))⟩
theorem zeroF (W : World) : (zeroValue FT).run Try.prog W = .ok (.agg (VS.mk 0 fun _ => 0).cells) W := by kernel_rfl
theorem infoF : (Try.prog.info? FT).map (·.size) = some 23 := by kernel_rfl
def vs0 : VS := ⟨3, fun _ => 0⟩
theorem vs0_ok : vs0.ok := fun _ => ⟨by show 0 < _; decide⟩
set_option maxHeartbeats 8000000 in
set_option maxRecDepth 100000 in
theorem begin_c (w : World) :
    Calls Try.prog 32 #[] w fun e w' => e = .returned (.agg vs0.cells) ∧ Kp w w' (fun _ => False) := by
  go_enter Try.func32, Try.ntmps32
  go_wp2_with (first
    | ((with_reducible refine gate_dst (N := 0) rfl ?_); refine al_ev rfl rfl (N := 0) rfl _ (zeroF _) ?_; intro g hg w1 hb1 hk1; have Hg := Aside0.mk hg; clear hg)
    | ((with_reducible refine gate_store (t := 31) (p := 0) rfl ?_); refine st_ev rfl rfl rfl g vs0.cells _ _ rfl rfl hb1 infoF rfl (VS.one _) ?_; intro w2 hb2 hk2))
  refine bodyPost_ret (results_cell_row rfl _ _ g FT vs0.cells (0, 0) _ rfl hb2 Try.underlying31 rfl infoF) rfl ?_
  exact ⟨rfl, hk1.then hk2 fun k hk (e : k = g) => by have := Hg.out; omega⟩
def knownW (n : Int) : Bool := decide (placeW n ≠ 0) || decide (n = 768 ∨ n = 256 ∨ n = 769 ∨ n = 836 ∨ n = 324 ∨ n = 260 ∨ n = 3857 ∨ n = 3858 ∨ n = 3859 ∨ n = 3860)
end Go.Proofs.Ytnknfepbekaobaa.H
/- The hart's registers (package csr), walked by hand: who may, names; the page's example. -/
namespace Go.Proofs.Ytnknfepbekaobaa.H
open Go.RowKit Go.Proofs.YtnknfepbekaobaaW.PrintWords Go.Proofs.YtnknfepbekaobaaW.PrintLast Go.Proofs.Ytnknfepbekaobaa.PAl Go.Proofs.Ytnknfepbekaobaa.Pure Go.Proofs.Ytnknfepbekaobaa.Vw
set_option linter.unusedVariables false
set_option linter.unusedSimpArgs false
theorem statusW_m (s : VS) (x k : Nat) : (statusW s x k).m = s.m := by unfold statusW; split <;> rfl
theorem writeW_m (s : VS) (n : Int) (x : Nat) : (writeW s n x).m = s.m := by
  unfold writeW; repeat' split
  all_goals first | exact statusW_m _ _ _ | rfl
theorem write_l (g : Nat) (s : VS) (n : Int) (k : Nat) (w : World) (hI : St FT w g s) (hs : s.ok) (hk : k < 18446744073709551616) :
    Calls Try.prog 33 #[.pointer (some ⟨g, 0, none⟩), .int .i64 n, .int .u64 (@OfNat.ofNat Int k instOfNat)] w fun e w' => e = .returned (.tuple #[]) ∧ St FT w' g (writeW s n k) ∧ KpG w w' g :=
  write_c g s n k w hI hs ⟨hk⟩
def awakeS : VS := writeW (writeW (writeW vs0 773 8) 773 6) 833 7
theorem awakeS_ok : awakeS.ok := writeW_ok (writeW_ok (writeW_ok vs0_ok 773 U.num) 773 U.num) 833 U.num
theorem awake1 : readW awakeS 773 = 8 := by decide +kernel
theorem awake2 : readW awakeS 833 = 4 := by decide +kernel
theorem awake3 : knownW 769 = true := by decide +kernel
theorem awakeM : awakeS.m = 3 := by unfold awakeS; rw [writeW_m, writeW_m, writeW_m]; rfl
end Go.Proofs.Ytnknfepbekaobaa.H
/- The document's answer for the registers (vireoref08), walked by hand: what each function answers. -/
namespace Go.Proofs.Ytnknfepbekaobaa.H
open Go.RowKit Go.Proofs.YtnknfepbekaobaaW.PrintWords Go.Proofs.YtnknfepbekaobaaW.PrintLast Go.Proofs.Ytnknfepbekaobaa.PAl Go.Proofs.Ytnknfepbekaobaa.Pure Go.Proofs.Ytnknfepbekaobaa.Vw
set_option linter.unusedVariables false
set_option linter.unusedSimpArgs false
abbrev RT : TypeId := 34
abbrev KpN (w w' : World) : Prop := Kp w w' (fun _ => False)
theorem getr_c (x : Nat) (a n : Int) (w : World) (hx : U x) : Calls Try.prog 50 #[.int .u64 (x : Int), .int .i64 a, .int .i64 n] w fun e w' => e = .returned (.int .u64 ((getW x a n : Nat) : Int)) ∧ KpN w w' :=
  (vireoref01_Get.calls 140 _ _ _ _ w (vireoref01_Get_is x hx.lt a n 140 (by decide))).mono fun e w' h => ⟨h.1, Kp.of_below h.2 _⟩
theorem putr_c (x : Nat) (a n : Int) (v : Nat) (w : World) (hx : U x) (hv : U v) : Calls Try.prog 45 #[.int .u64 (x : Int), .int .i64 a, .int .i64 n, .int .u64 (v : Int)] w fun e w' => e = .returned (.int .u64 ((putW x a n v : Nat) : Int)) ∧ KpN w w' :=
  (vireoref01_Put.calls 140 _ _ _ _ _ w (vireoref01_Put_is x hx.lt a n v hv.lt 140 (by decide))).mono fun e w' h => ⟨h.1, Kp.of_below h.2 _⟩
theorem bitw_c (x y : Nat) (how : Int) (w : World) (hx : U x) (hy : U y) : Calls Try.prog 69 #[.int .u64 (x : Int), .int .u64 (y : Int), .int .i64 how] w fun e w' => e = .returned (.int .u64 ((bwW x y how : Nat) : Int)) ∧ KpN w w' :=
  (vireoref05_bitwise.calls 140 _ _ _ _ w (vireoref05_bitwise_is x y hx.lt hy.lt how 140 (by decide))).mono fun e w' h => ⟨h.1, Kp.of_below h.2 _⟩
set_option maxHeartbeats 8000000 in
set_option maxRecDepth 100000 in
theorem do_and (x y : Nat) (w : World) (hx : U x) (hy : U y) :
    Calls Try.prog 56 #[.int .i64 40, .int .u64 (x : Int), .int .u64 (y : Int)] w fun e w' => e = .returned (.tuple #[.int .u64 ((x &&& y : Nat) : Int), .bool true]) ∧ KpN w w' := by
  have e0 : bwW x y 0 = x &&& y := rfl
  go_enter Try.func56, Try.ntmps56
  go_wp2_with (go_at_call 69; refine (bitw_c _ _ _ _ hx hy).mono ?_; rintro e w' ⟨rfl, hk⟩)
  go_ret2
  exact ⟨rfl, hk⟩
set_option maxHeartbeats 8000000 in
set_option maxRecDepth 100000 in
theorem do_or (x y : Nat) (w : World) (hx : U x) (hy : U y) :
    Calls Try.prog 56 #[.int .i64 39, .int .u64 (x : Int), .int .u64 (y : Int)] w fun e w' => e = .returned (.tuple #[.int .u64 ((x ||| y : Nat) : Int), .bool true]) ∧ KpN w w' := by
  have e0 : bwW x y 1 = x ||| y := rfl
  go_enter Try.func56, Try.ntmps56
  go_wp2_with (go_at_call 69; refine (bitw_c _ _ _ _ hx hy).mono ?_; rintro e w' ⟨rfl, hk⟩)
  go_ret2
  exact ⟨rfl, hk⟩
set_option maxHeartbeats 8000000 in
set_option maxRecDepth 100000 in
theorem and_r (x y : Nat) (w : World) (hx : U x) (hy : U y) :
    Calls Try.prog 36 #[.int .u64 (x : Int), .int .u64 (y : Int)] w fun e w' => e = .returned (.int .u64 ((x &&& y : Nat) : Int)) ∧ KpN w w' := by
  go_enter Try.func36, Try.ntmps36
  go_wp2_with (go_at_call 56; refine (do_and _ _ _ hx hy).mono ?_; rintro e w' ⟨rfl, hk⟩)
  go_ret
  exact ⟨rfl, hk⟩
theorem and_rl (x n : Nat) (w : World) (hx : U x) (hn : n < 18446744073709551616) :
    Calls Try.prog 36 #[.int .u64 (x : Int), .int .u64 (@OfNat.ofNat Int n instOfNat)] w fun e w' => e = .returned (.int .u64 ((x &&& n : Nat) : Int)) ∧ KpN w w' := and_r x n w hx ⟨hn⟩
set_option maxHeartbeats 8000000 in
set_option maxRecDepth 100000 in
theorem or_r (x y : Nat) (w : World) (hx : U x) (hy : U y) :
    Calls Try.prog 61 #[.int .u64 (x : Int), .int .u64 (y : Int)] w fun e w' => e = .returned (.int .u64 ((x ||| y : Nat) : Int)) ∧ KpN w w' := by
  go_enter Try.func61, Try.ntmps61
  go_wp2_with (go_at_call 56; refine (do_or _ _ _ hx hy).mono ?_; rintro e w' ⟨rfl, hk⟩)
  go_ret
  exact ⟨rfl, hk⟩
def mixW (old x mask : Nat) : Nat := minus old mask ||| (x &&& mask)
theorem mixW_ok {old x mask : Nat} (h : U old) (k : U x) : U (mixW old x mask) := h.minus.or k.and
set_option maxHeartbeats 8000000 in
set_option maxRecDepth 100000 in
theorem mix_r (old x mask : Nat) (w : World) (ho : U old) (hx : U x) (hm : U mask) :
    Calls Try.prog 54 #[.int .u64 (old : Int), .int .u64 (x : Int), .int .u64 (mask : Int)] w fun e w' => e = .returned (.int .u64 ((mixW old x mask : Nat) : Int)) ∧ KpN w w' := by
  have hn : U (18446744073709551615 - mask) := ⟨by omega⟩
  have en : Go.bits .xor .u64 IntKind.u64.max (mask : Int) = ((18446744073709551615 - mask : Nat) : Int) := not_nat mask hm.lt
  obtain ⟨k, hk⟩ : ∃ k, 18446744073709551615 - mask = k := ⟨_, rfl⟩
  rw [hk] at hn en
  have hmix : mixW old x mask = (old &&& k) ||| (x &&& mask) := by unfold mixW minus; rw [hk]
  have Hk := Aside0.mk hmix
  clear hk hmix
  go_enter Try.func54, Try.ntmps54
  go_wp2_with (fail)
  refine (and_r old k _ ho hn).mono ?_
  rintro e w1 ⟨rfl, hk1⟩
  go_wp2_with (fail)
  refine (and_r x mask _ hx hm).mono ?_
  rintro e w2 ⟨rfl, hk2⟩
  go_wp2_with (fail)
  refine (or_r _ _ _ ho.and hx.and).mono ?_
  rintro e w3 ⟨rfl, hk3⟩
  go_wp2
  go_ret
  rw [Hk.out]
  exact ⟨rfl, (hk1.trans hk2).trans hk3⟩
theorem mix_rl (old x n : Nat) (w : World) (ho : U old) (hx : U x) (hn : n < 18446744073709551616) :
    Calls Try.prog 54 #[.int .u64 (old : Int), .int .u64 (x : Int), .int .u64 (@OfNat.ofNat Int n instOfNat)] w fun e w' => e = .returned (.int .u64 ((mixW old x n : Nat) : Int)) ∧ KpN w w' := mix_r old x n w ho hx ⟨hn⟩
theorem bit_eq (x : Nat) (a : Int) : ((((getW x a 1 : Nat) : Int)) == 1) = bitW x a := by
  rw [getW_one]; unfold bitW
  cases (decide (0 ≤ a ∧ a ≤ 63) && x.testBit a.toNat) <;> rfl
end Go.Proofs.Ytnknfepbekaobaa.H
/- The document's answer for the registers (vireoref08), walked by hand: its writes. -/
namespace Go.Proofs.Ytnknfepbekaobaa.H
open Go.RowKit Go.Proofs.YtnknfepbekaobaaW.PrintWords Go.Proofs.YtnknfepbekaobaaW.PrintLast Go.Proofs.Ytnknfepbekaobaa.PAl Go.Proofs.Ytnknfepbekaobaa.Pure Go.Proofs.Ytnknfepbekaobaa.Vw
set_option linter.unusedVariables false
set_option linter.unusedSimpArgs false
set_option maxHeartbeats 8000000 in
set_option maxRecDepth 100000 in
theorem rbit_c (s : VS) (at_ : Nat) (n : Int) (w : World) (hs : s.ok) (h : at_ ≤ 21) :
    Calls Try.prog 38 #[.agg s.cells, .int .i64 (at_ : Int), .int .i64 n] w fun e w' => e = .returned (.bool (bitW (s.r (1 + at_)) n)) ∧ KpN w w' := by
  have i0 : (0 : Int) ≤ (at_ : Int) := by omega
  have i1 : (at_ : Int) < 22 := by omega
  go_enter Try.func38, Try.ntmps38
  go_wp2_with (first
    | ((with_reducible refine gate_dst (N := 3) rfl ?_); refine bx_ev rfl rfl (N := 3) rfl s.cells rfl ?_; intro g hg w1 hb1 hk1; have Hg := Aside0.mk hg; clear hg; have c1 := (St.mk hb1).c (1 + at_) (by omega) (by omega))
    | (go_at_call 50; refine (getr_c _ _ _ _ (hs _)).mono ?_; rintro e w2 ⟨rfl, hk2⟩))
  go_ret
  exact ⟨congrArg (fun z => Ending.returned (.bool z)) (bit_eq _ _), hk1.trans hk2⟩
theorem rbit_l (s : VS) (k : Nat) (n : Int) (w : World) (hs : s.ok) (h : k ≤ 21) :
    Calls Try.prog 38 #[.agg s.cells, .int .i64 (@OfNat.ofNat Int k instOfNat), .int .i64 n] w fun e w' => e = .returned (.bool (bitW (s.r (1 + k)) n)) ∧ KpN w w' := rbit_c s k n w hs h
/-! the rows -/
def findR (l : List S92) (n : Int) : Int × ByteArray × Int × Int × Bool :=
  match l.find? (fun x => decide (x.f0 = n)) with
  | some x => (x.f0, x.f1, x.f2, x.f3, true)
  | none => (0, ⟨#[]⟩, 0, 0, false)
def rowsL : List S92 := vireoref08_Rows.f.getD []
def ofR (n : Int) : Int × ByteArray × Int × Int × Bool := findR rowsL n
theorem of_l (l : List S92) (n : Int) (hl : l.length ≤ 40) : ∀ (d k i : Nat), i + d = l.length → d < k → vireoref08_Of.l0 k n l (i : Int) 0 ⟨#[]⟩ 0 0 = some (findR (l.drop i) n)
  | 0, k, i, hi, hk => by
    obtain ⟨k, rfl⟩ : ∃ m, k = m + 1 := ⟨k - 1, by omega⟩
    rw [vireoref08_Of.l0, if_neg (by omega), List.drop_eq_nil_of_le (by omega)]
    rfl
  | d + 1, k, i, hi, hk => by
    obtain ⟨k, rfl⟩ : ∃ m, k = m + 1 := ⟨k - 1, by omega⟩
    have hil : i < l.length := by omega
    have e2 : wrap64 ((i : Int) + 1) = ((i + 1 : Nat) : Int) := by rw [w64_id _ (by omega) (by omega)]; omega
    have er : rd_T92 l (i : Int) = l[i] := by
      unfold rd_T92; rw [Int.toNat_natCast, List.getD_eq_getElem?_getD, List.getElem?_eq_getElem hil]; rfl
    have ih := of_l l n hl d k (i + 1) (by omega) (by omega)
    rw [vireoref08_Of.l0, if_pos (by omega), if_pos (by omega), er, e2, ih, List.drop_eq_getElem_cons hil]
    unfold findR
    by_cases h : l[i].f0 = n
    · rw [if_pos h, List.find?_cons_of_pos (by simpa using h)]
    · rw [if_neg h, List.find?_cons_of_neg (by simpa using h)]
theorem of_c (n : Int) (w : World) :
    Calls Try.prog 55 #[.int .i64 n] w fun e w' => e = .returned (.tuple #[.agg #[.int .i64 (ofR n).1, .string (ofR n).2.1, .int .i64 (ofR n).2.2.1, .int .u64 (ofR n).2.2.2.1], .bool (ofR n).2.2.2.2]) ∧ KpN w w' := by
  have h : vireoref08_Of.f 40 n = some (ofR n) := by
    have := of_l rowsL n (by decide) 31 40 0 (by decide) (by decide)
    unfold vireoref08_Of.f
    exact this
  exact (vireoref08_Of.calls 40 n _ _ _ _ _ w h).mono fun e w' h => ⟨h.1, Kp.of_below h.2 _⟩
end Go.Proofs.Ytnknfepbekaobaa.H
/- The document's answer for the registers (vireoref08), walked by hand: its writes. -/
namespace Go.Proofs.Ytnknfepbekaobaa.H
open Go.RowKit Go.Proofs.YtnknfepbekaobaaW.PrintWords Go.Proofs.YtnknfepbekaobaaW.PrintLast Go.Proofs.Ytnknfepbekaobaa.PAl Go.Proofs.Ytnknfepbekaobaa.Pure Go.Proofs.Ytnknfepbekaobaa.Vw
set_option linter.unusedVariables false
set_option linter.unusedSimpArgs false
theorem zeroR (W : World) : (zeroValue RT).run Try.prog W = .ok (.agg (VS.mk 0 fun _ => 0).cells) W := by kernel_rfl
theorem infoR : (Try.prog.info? RT).map (·.size) = some 23 := by kernel_rfl
theorem out2 {a b c : World} {g : Nat} (h : KpN a b) (hg : a.heap.size ≤ g) (k : Kp b c (fun i => i = g)) : KpN a c := h.then k fun i hi (e : i = g) => by omega
def rwriteW (s : VS) (n : Int) (x : Nat) : VS :=
  if n = 768 then s.set 1 (mixW (s.r 1) x (if getW x 11 2 = 2 then 8257962 else 8264106)) else if n = 256 then s.set 1 (mixW (s.r 1) x 786722)
  else if n = 836 then s.set 2 (x &&& 546) else if n = 324 then s.set 2 (mixW (s.r 2) x (s.r 5 &&& 2)) else if n = 260 then s.set 6 (mixW (s.r 6) x (s.r 5))
  else if (ofR n).2.2.2.2 = false ∨ (ofR n).2.2.1 < 0 ∨ (ofR n).2.2.2.1 = 0 then s
  else if ((ofR n).2.2.1 = 6 ∨ (ofR n).2.2.1 = 12) ∧ getW x 1 1 = 1 then s
  else if (ofR n).2.2.1 = 18 ∧ getW x 60 4 ≠ 0 ∧ getW x 60 4 ≠ 8 then s
  else s.set ((ofR n).2.2.1.toNat + 1) (x &&& (ofR n).2.2.2.1.toNat)
set_option maxHeartbeats 8000000 in
set_option maxRecDepth 100000 in
theorem rwrite_c3 (s : VS) (x : Nat) (w : World) (hs : s.ok) (hx : U x) :
    Calls Try.prog 34 #[.agg s.cells, .int .i64 836, .int .u64 (x : Int)] w fun e w' => e = .returned (.agg (s.set 2 (x &&& 546)).cells) ∧ KpN w w' := by
  go_enter Try.func34, Try.ntmps34
  go_wp2_with (first | ((with_reducible refine gate_dst (N := 3) rfl ?_); refine bx_ev rfl rfl (N := 3) rfl (s.cells) rfl ?_; intro g hg_g w1 hb_g hk_g; have Hg_g := Aside0.mk hg_g; clear hg_g) | (((with_reducible refine gate_dst (N := 6) rfl ?_); refine al_ev rfl rfl (N := 6) rfl _ (zeroR _) ?_; intro h hg_h w2 hb_h hk_h; have Hg_h := Aside0.mk hg_h; clear hg_h); have hI2 : St RT w2 g s := (St.mk hb_g).kp hk_h (fun h => h); have c1 := hI2.c 1; have c2 := hI2.c 2; have c5 := hI2.c 5; have c6 := hI2.c 6))
  have hgh : h ≠ g := by have := Hg_h.out; have := blk_lt hb_g; omega
  have hgw : w.heap.size ≤ g := by have := Hg_g.out; omega
  have hhw : w.heap.size ≤ h := by have := Hg_h.out; have := hk_g.size; omega
  have hR2 : St RT w2 h (VS.mk 0 fun _ => 0) := St.mk hb_h
  have K2 := hk_g.trans hk_h
  clear hb_g hb_h hk_g hk_h Hg_g Hg_h
  refine (and_rl x 546 _ hx (by decide)).mono ?_
  rintro e w3 ⟨rfl, hk3⟩
  have hI3 : St RT w3 g s := hI2.kp hk3 (fun h => h)
  have hR3 : St RT w3 h (VS.mk 0 fun _ => 0) := hR2.kp hk3 (fun h => h)
  have K3 := K2.trans hk3
  clear hI2 hR2 K2 hk3
  have cJ := hI3.c 2
  have fJ := hI3.f 2
  go_wp2_with (first | ((with_reducible refine gate_dst (N := 44) rfl ?_); refine wpList_load_row rfl 34 _ rfl g rfl _ ((s.set 2 (x &&& 546)).cells) (0, 0) _ ((hI3.set 2 _).blk) Try.underlying34 rfl infoR ?_) | ((with_reducible refine gate_store (t := 34) (p := 6) rfl ?_); refine st_ev rfl rfl rfl h ((s.set 2 (x &&& 546)).cells) _ _ rfl rfl ((hR3.far hgh _).blk) infoR rfl (VS.one _) ?_; intro wz hs_wz ks_wz))
  refine bodyPost_ret (results_cell_row rfl _ _ h 34 ((s.set 2 (x &&& 546)).cells) (0, 0) _ rfl (hs_wz) Try.underlying34 rfl infoR) rfl ?_
  exact ⟨rfl, (K3.setCell (p := ⟨g, 2, none⟩) (.inr hgw) _).then ks_wz fun i hi (e : i = h) => by omega⟩
set_option maxHeartbeats 8000000 in
set_option maxRecDepth 100000 in
theorem rwrite_c2 (s : VS) (x : Nat) (w : World) (hs : s.ok) (hx : U x) :
    Calls Try.prog 34 #[.agg s.cells, .int .i64 256, .int .u64 (x : Int)] w fun e w' => e = .returned (.agg (s.set 1 (mixW (s.r 1) x 786722)).cells) ∧ KpN w w' := by
  go_enter Try.func34, Try.ntmps34
  go_wp2_with (first | ((with_reducible refine gate_dst (N := 3) rfl ?_); refine bx_ev rfl rfl (N := 3) rfl (s.cells) rfl ?_; intro g hg_g w1 hb_g hk_g; have Hg_g := Aside0.mk hg_g; clear hg_g) | (((with_reducible refine gate_dst (N := 6) rfl ?_); refine al_ev rfl rfl (N := 6) rfl _ (zeroR _) ?_; intro h hg_h w2 hb_h hk_h; have Hg_h := Aside0.mk hg_h; clear hg_h); have hI2 : St RT w2 g s := (St.mk hb_g).kp hk_h (fun h => h); have c1 := hI2.c 1; have c2 := hI2.c 2; have c5 := hI2.c 5; have c6 := hI2.c 6))
  have hgh : h ≠ g := by have := Hg_h.out; have := blk_lt hb_g; omega
  have hgw : w.heap.size ≤ g := by have := Hg_g.out; omega
  have hhw : w.heap.size ≤ h := by have := Hg_h.out; have := hk_g.size; omega
  have hR2 : St RT w2 h (VS.mk 0 fun _ => 0) := St.mk hb_h
  have K2 := hk_g.trans hk_h
  clear hb_g hb_h hk_g hk_h Hg_g Hg_h
  refine (mix_rl (s.r 1) x 786722 _ (hs 1) hx (by decide)).mono ?_
  rintro e w3 ⟨rfl, hk3⟩
  have hI3 : St RT w3 g s := hI2.kp hk3 (fun h => h)
  have hR3 : St RT w3 h (VS.mk 0 fun _ => 0) := hR2.kp hk3 (fun h => h)
  have K3 := K2.trans hk3
  clear hI2 hR2 K2 hk3
  have cJ := hI3.c 1
  have fJ := hI3.f 1
  go_wp2_with (first | ((with_reducible refine gate_dst (N := 37) rfl ?_); refine wpList_load_row rfl 34 _ rfl g rfl _ ((s.set 1 (mixW (s.r 1) x 786722)).cells) (0, 0) _ ((hI3.set 1 _).blk) Try.underlying34 rfl infoR ?_) | ((with_reducible refine gate_store (t := 34) (p := 6) rfl ?_); refine st_ev rfl rfl rfl h ((s.set 1 (mixW (s.r 1) x 786722)).cells) _ _ rfl rfl ((hR3.far hgh _).blk) infoR rfl (VS.one _) ?_; intro wz hs_wz ks_wz))
  refine bodyPost_ret (results_cell_row rfl _ _ h 34 ((s.set 1 (mixW (s.r 1) x 786722)).cells) (0, 0) _ rfl (hs_wz) Try.underlying34 rfl infoR) rfl ?_
  exact ⟨rfl, (K3.setCell (p := ⟨g, 1, none⟩) (.inr hgw) _).then ks_wz fun i hi (e : i = h) => by omega⟩
set_option maxHeartbeats 8000000 in
set_option maxRecDepth 100000 in
theorem rwrite_c5 (s : VS) (x : Nat) (w : World) (hs : s.ok) (hx : U x) :
    Calls Try.prog 34 #[.agg s.cells, .int .i64 260, .int .u64 (x : Int)] w fun e w' => e = .returned (.agg (s.set 6 (mixW (s.r 6) x (s.r 5))).cells) ∧ KpN w w' := by
  go_enter Try.func34, Try.ntmps34
  go_wp2_with (first | ((with_reducible refine gate_dst (N := 3) rfl ?_); refine bx_ev rfl rfl (N := 3) rfl (s.cells) rfl ?_; intro g hg_g w1 hb_g hk_g; have Hg_g := Aside0.mk hg_g; clear hg_g) | (((with_reducible refine gate_dst (N := 6) rfl ?_); refine al_ev rfl rfl (N := 6) rfl _ (zeroR _) ?_; intro h hg_h w2 hb_h hk_h; have Hg_h := Aside0.mk hg_h; clear hg_h); have hI2 : St RT w2 g s := (St.mk hb_g).kp hk_h (fun h => h); have c1 := hI2.c 1; have c2 := hI2.c 2; have c5 := hI2.c 5; have c6 := hI2.c 6))
  have hgh : h ≠ g := by have := Hg_h.out; have := blk_lt hb_g; omega
  have hgw : w.heap.size ≤ g := by have := Hg_g.out; omega
  have hhw : w.heap.size ≤ h := by have := Hg_h.out; have := hk_g.size; omega
  have hR2 : St RT w2 h (VS.mk 0 fun _ => 0) := St.mk hb_h
  have K2 := hk_g.trans hk_h
  clear hb_g hb_h hk_g hk_h Hg_g Hg_h
  refine (mix_r (s.r 6) x (s.r 5) _ (hs 6) hx (hs 5)).mono ?_
  rintro e w3 ⟨rfl, hk3⟩
  have hI3 : St RT w3 g s := hI2.kp hk3 (fun h => h)
  have hR3 : St RT w3 h (VS.mk 0 fun _ => 0) := hR2.kp hk3 (fun h => h)
  have K3 := K2.trans hk3
  clear hI2 hR2 K2 hk3
  have cJ := hI3.c 6
  have fJ := hI3.f 6
  go_wp2_with (first | ((with_reducible refine gate_dst (N := 71) rfl ?_); refine wpList_load_row rfl 34 _ rfl g rfl _ ((s.set 6 (mixW (s.r 6) x (s.r 5))).cells) (0, 0) _ ((hI3.set 6 _).blk) Try.underlying34 rfl infoR ?_) | ((with_reducible refine gate_store (t := 34) (p := 6) rfl ?_); refine st_ev rfl rfl rfl h ((s.set 6 (mixW (s.r 6) x (s.r 5))).cells) _ _ rfl rfl ((hR3.far hgh _).blk) infoR rfl (VS.one _) ?_; intro wz hs_wz ks_wz))
  refine bodyPost_ret (results_cell_row rfl _ _ h 34 ((s.set 6 (mixW (s.r 6) x (s.r 5))).cells) (0, 0) _ rfl (hs_wz) Try.underlying34 rfl infoR) rfl ?_
  exact ⟨rfl, (K3.setCell (p := ⟨g, 6, none⟩) (.inr hgw) _).then ks_wz fun i hi (e : i = h) => by omega⟩
set_option maxHeartbeats 8000000 in
set_option maxRecDepth 100000 in
theorem rwrite_c1a (s : VS) (x : Nat) (w : World) (hs : s.ok) (hx : U x) (hg : getW x 11 2 = 2) :
    Calls Try.prog 34 #[.agg s.cells, .int .i64 768, .int .u64 (x : Int)] w fun e w' => e = .returned (.agg (s.set 1 (mixW (s.r 1) x 8257962)).cells) ∧ KpN w w' := by
  go_enter Try.func34, Try.ntmps34
  go_wp2_with (first | ((with_reducible refine gate_dst (N := 3) rfl ?_); refine bx_ev rfl rfl (N := 3) rfl (s.cells) rfl ?_; intro g hg_g w1 hb_g hk_g; have Hg_g := Aside0.mk hg_g; clear hg_g) | (((with_reducible refine gate_dst (N := 6) rfl ?_); refine al_ev rfl rfl (N := 6) rfl _ (zeroR _) ?_; intro h hg_h w2 hb_h hk_h; have Hg_h := Aside0.mk hg_h; clear hg_h); have hI2 : St RT w2 g s := (St.mk hb_g).kp hk_h (fun h => h); have c1 := hI2.c 1; have c2 := hI2.c 2; have c5 := hI2.c 5; have c6 := hI2.c 6))
  have hgh : h ≠ g := by have := Hg_h.out; have := blk_lt hb_g; omega
  have hgw : w.heap.size ≤ g := by have := Hg_g.out; omega
  have hhw : w.heap.size ≤ h := by have := Hg_h.out; have := hk_g.size; omega
  have hR2 : St RT w2 h (VS.mk 0 fun _ => 0) := St.mk hb_h
  have K2 := hk_g.trans hk_h
  clear hb_g hb_h hk_g hk_h Hg_g Hg_h
  refine (getr_c x 11 2 _ hx).mono ?_
  rintro e w3 ⟨rfl, hk3⟩
  have hI3 : St RT w3 g s := hI2.kp hk3 (fun h => h)
  have hR3 : St RT w3 h (VS.mk 0 fun _ => 0) := hR2.kp hk3 (fun h => h)
  have K3 := K2.trans hk3
  clear hI2 hR2 K2 hk3
  have Hg := Aside0.mk hg
  have hb : (((getW x 11 2 : Nat) : Int) == 2) = true := by rw [hg]; rfl
  clear hg
  have c1 := hI3.c 1
  go_wp2_with (fail)
  refine (mix_rl (s.r 1) x 8257962 _ (hs 1) hx (by decide)).mono ?_
  rintro e w4 ⟨rfl, hk4⟩
  have hI4 : St RT w4 g s := hI3.kp hk4 (fun h => h)
  have hR4 : St RT w4 h (VS.mk 0 fun _ => 0) := hR3.kp hk4 (fun h => h)
  have K4 := K3.trans hk4
  clear hI3 hR3 K3 hk4
  have cJ := hI4.c 1
  have fJ := hI4.f 1
  go_wp2_with (first | ((with_reducible refine gate_dst (N := 27) rfl ?_); refine wpList_load_row rfl 34 _ rfl g rfl _ ((s.set 1 (mixW (s.r 1) x 8257962)).cells) (0, 0) _ ((hI4.set 1 _).blk) Try.underlying34 rfl infoR ?_) | ((with_reducible refine gate_store (t := 34) (p := 6) rfl ?_); refine st_ev rfl rfl rfl h ((s.set 1 (mixW (s.r 1) x 8257962)).cells) _ _ rfl rfl ((hR4.far hgh _).blk) infoR rfl (VS.one _) ?_; intro wz hs_wz ks_wz))
  refine bodyPost_ret (results_cell_row rfl _ _ h 34 ((s.set 1 (mixW (s.r 1) x 8257962)).cells) (0, 0) _ rfl (hs_wz) Try.underlying34 rfl infoR) rfl ?_
  exact ⟨rfl, (K4.setCell (p := ⟨g, 1, none⟩) (.inr hgw) _).then ks_wz fun i hi (e : i = h) => by omega⟩
set_option maxHeartbeats 8000000 in
set_option maxRecDepth 100000 in
theorem rwrite_c1b (s : VS) (x : Nat) (w : World) (hs : s.ok) (hx : U x) (hg : ¬ getW x 11 2 = 2) :
    Calls Try.prog 34 #[.agg s.cells, .int .i64 768, .int .u64 (x : Int)] w fun e w' => e = .returned (.agg (s.set 1 (mixW (s.r 1) x 8264106)).cells) ∧ KpN w w' := by
  go_enter Try.func34, Try.ntmps34
  go_wp2_with (first | ((with_reducible refine gate_dst (N := 3) rfl ?_); refine bx_ev rfl rfl (N := 3) rfl (s.cells) rfl ?_; intro g hg_g w1 hb_g hk_g; have Hg_g := Aside0.mk hg_g; clear hg_g) | (((with_reducible refine gate_dst (N := 6) rfl ?_); refine al_ev rfl rfl (N := 6) rfl _ (zeroR _) ?_; intro h hg_h w2 hb_h hk_h; have Hg_h := Aside0.mk hg_h; clear hg_h); have hI2 : St RT w2 g s := (St.mk hb_g).kp hk_h (fun h => h); have c1 := hI2.c 1; have c2 := hI2.c 2; have c5 := hI2.c 5; have c6 := hI2.c 6))
  have hgh : h ≠ g := by have := Hg_h.out; have := blk_lt hb_g; omega
  have hgw : w.heap.size ≤ g := by have := Hg_g.out; omega
  have hhw : w.heap.size ≤ h := by have := Hg_h.out; have := hk_g.size; omega
  have hR2 : St RT w2 h (VS.mk 0 fun _ => 0) := St.mk hb_h
  have K2 := hk_g.trans hk_h
  clear hb_g hb_h hk_g hk_h Hg_g Hg_h
  refine (getr_c x 11 2 _ hx).mono ?_
  rintro e w3 ⟨rfl, hk3⟩
  have hI3 : St RT w3 g s := hI2.kp hk3 (fun h => h)
  have hR3 : St RT w3 h (VS.mk 0 fun _ => 0) := hR2.kp hk3 (fun h => h)
  have K3 := K2.trans hk3
  clear hI2 hR2 K2 hk3
  have Hg := Aside0.mk hg
  have hb : (((getW x 11 2 : Nat) : Int) == 2) = false := by rw [beq_eq_false_iff_ne]; omega
  clear hg
  have c1 := hI3.c 1
  go_wp2_with (fail)
  refine (mix_rl (s.r 1) x 8264106 _ (hs 1) hx (by decide)).mono ?_
  rintro e w4 ⟨rfl, hk4⟩
  have hI4 : St RT w4 g s := hI3.kp hk4 (fun h => h)
  have hR4 : St RT w4 h (VS.mk 0 fun _ => 0) := hR3.kp hk4 (fun h => h)
  have K4 := K3.trans hk4
  clear hI3 hR3 K3 hk4
  have cJ := hI4.c 1
  have fJ := hI4.f 1
  go_wp2_with (first | ((with_reducible refine gate_dst (N := 27) rfl ?_); refine wpList_load_row rfl 34 _ rfl g rfl _ ((s.set 1 (mixW (s.r 1) x 8264106)).cells) (0, 0) _ ((hI4.set 1 _).blk) Try.underlying34 rfl infoR ?_) | ((with_reducible refine gate_store (t := 34) (p := 6) rfl ?_); refine st_ev rfl rfl rfl h ((s.set 1 (mixW (s.r 1) x 8264106)).cells) _ _ rfl rfl ((hR4.far hgh _).blk) infoR rfl (VS.one _) ?_; intro wz hs_wz ks_wz))
  refine bodyPost_ret (results_cell_row rfl _ _ h 34 ((s.set 1 (mixW (s.r 1) x 8264106)).cells) (0, 0) _ rfl (hs_wz) Try.underlying34 rfl infoR) rfl ?_
  exact ⟨rfl, (K4.setCell (p := ⟨g, 1, none⟩) (.inr hgw) _).then ks_wz fun i hi (e : i = h) => by omega⟩
end Go.Proofs.Ytnknfepbekaobaa.H
/- The document's answer for the registers (vireoref08), walked by hand: its writes, the rest. -/
namespace Go.Proofs.Ytnknfepbekaobaa.H
open Go.RowKit Go.Proofs.YtnknfepbekaobaaW.PrintWords Go.Proofs.YtnknfepbekaobaaW.PrintLast Go.Proofs.Ytnknfepbekaobaa.PAl Go.Proofs.Ytnknfepbekaobaa.Pure Go.Proofs.Ytnknfepbekaobaa.Vw
set_option linter.unusedVariables false
set_option linter.unusedSimpArgs false
set_option maxHeartbeats 8000000 in
set_option maxRecDepth 100000 in
theorem rwrite_c4 (s : VS) (x : Nat) (w : World) (hs : s.ok) (hx : U x) :
    Calls Try.prog 34 #[.agg s.cells, .int .i64 324, .int .u64 (x : Int)] w fun e w' => e = .returned (.agg (s.set 2 (mixW (s.r 2) x (s.r 5 &&& 2))).cells) ∧ KpN w w' := by
  go_enter Try.func34, Try.ntmps34
  go_wp2_with (first | ((with_reducible refine gate_dst (N := 3) rfl ?_); refine bx_ev rfl rfl (N := 3) rfl (s.cells) rfl ?_; intro g hg_g w1 hb_g hk_g; have Hg_g := Aside0.mk hg_g; clear hg_g) | (((with_reducible refine gate_dst (N := 6) rfl ?_); refine al_ev rfl rfl (N := 6) rfl _ (zeroR _) ?_; intro h hg_h w2 hb_h hk_h; have Hg_h := Aside0.mk hg_h; clear hg_h); have hI2 : St RT w2 g s := (St.mk hb_g).kp hk_h (fun h => h); have c2 := hI2.c 2; have c5 := hI2.c 5; have f2 := hI2.f 2))
  have hgh : h ≠ g := by have := Hg_h.out; have := blk_lt hb_g; omega
  have hgw : w.heap.size ≤ g := by have := Hg_g.out; omega
  have hhw : w.heap.size ≤ h := by have := Hg_h.out; have := hk_g.size; omega
  have hR2 : St RT w2 h (VS.mk 0 fun _ => 0) := St.mk hb_h
  have K2 := hk_g.trans hk_h
  clear hb_g hb_h hk_g hk_h Hg_g Hg_h
  go_region_with (first
    | (go_at_call 36; refine (and_rl (s.r 5) 2 _ (hs 5) (by decide)).mono ?_; rintro e w3 ⟨rfl, hk3⟩; have hI3 : St RT w3 g s := hI2.drew.kp hk3 (fun h => h); have c2b := hI3.c 2; have f2b := hI3.f 2)
    | (go_at_call 54; refine (mix_r (s.r 2) x (s.r 5 &&& 2) _ (hs 2) hx (hs 5).and).mono ?_; rintro e w4 ⟨rfl, hk4⟩; have hI4 : St RT w4 g s := hI3.kp hk4 (fun h => h); have c2c := hI4.c 2; have f2c := hI4.f 2))
  all_goals
    have hR4 : St RT w4 h (VS.mk 0 fun _ => 0) := (hR2.drew.kp hk3 (fun h => h)).kp hk4 (fun h => h)
    have K4 := (K2.drew.trans hk3).trans hk4
    clear hk3 hk4 hI2 hR2
    go_wp2_with (first | ((with_reducible refine gate_dst (N := 58) rfl ?_); refine wpList_load_row rfl 34 _ rfl g rfl _ ((s.set 2 (mixW (s.r 2) x (s.r 5 &&& 2))).cells) (0, 0) _ ((hI4.set 2 _).blk) Try.underlying34 rfl infoR ?_) | ((with_reducible refine gate_store (t := 34) (p := 6) rfl ?_); refine st_ev rfl rfl rfl h ((s.set 2 (mixW (s.r 2) x (s.r 5 &&& 2))).cells) _ _ rfl rfl ((hR4.far hgh _).blk) infoR rfl (VS.one _) ?_; intro wz hs_wz ks_wz))
    refine bodyPost_ret (results_cell_row rfl _ _ h 34 ((s.set 2 (mixW (s.r 2) x (s.r 5 &&& 2))).cells) (0, 0) _ rfl (hs_wz) Try.underlying34 rfl infoR) rfl ?_
    exact ⟨rfl, (K4.setCell (p := ⟨g, 2, none⟩) (.inr hgw) _).then ks_wz fun i hi (e : i = h) => by omega⟩
end Go.Proofs.Ytnknfepbekaobaa.H
/- The document's answer for the registers (vireoref08), walked by hand: its writes, by the rows. -/
namespace Go.Proofs.Ytnknfepbekaobaa.H
open Go.RowKit Go.Proofs.YtnknfepbekaobaaW.PrintWords Go.Proofs.YtnknfepbekaobaaW.PrintLast Go.Proofs.Ytnknfepbekaobaa.PAl Go.Proofs.Ytnknfepbekaobaa.Pure Go.Proofs.Ytnknfepbekaobaa.Vw
set_option linter.unusedVariables false
set_option linter.unusedSimpArgs false
/-- Block g holds these cells. -/
structure Bk (w : World) (g : Nat) (cs : Array Value) (T : TypeId) : Prop where
  blk : w.heap[g]? = some (.cells cs T (0, 0))
theorem Bk.kp {w w' : World} {g cs T} {S : Nat → Prop} (h : Bk w g cs T) (k : Kp w w' S) (hS : ¬ S g) : Bk w' g cs T := ⟨(k.block g (blk_lt h.blk) hS).trans h.blk⟩
theorem Bk.c {w : World} {g cs T} (h : Bk w g cs T) (j : Nat) : w.cell? ⟨g, j, none⟩ = cs[j]? := blk_cell h.blk j
theorem Bk.drew {w : World} {g cs T} (h : Bk w g cs T) : Bk w.drew g cs T := ⟨h.blk⟩
abbrev rowC (n0 : Int) (nm : ByteArray) (a m : Int) : Array Value := #[.int .i64 n0, .string nm, .int .i64 a, .int .u64 m]
theorem zeroRow (W : World) : (zeroValue 92).run Try.prog W = .ok (.agg (rowC 0 ⟨#[]⟩ 0 0)) W := by kernel_rfl
theorem infoRow : (Try.prog.info? 92).map (·.size) = some 4 := by kernel_rfl
theorem rowC_one (n0 : Int) (nm : ByteArray) (a m : Int) : (rowC n0 nm a m).all (·.oneCell') = true := by simp [Value.oneCell']
structure NotFive (n : Int) : Prop where
  b1 : (n == 768) = false
  b2 : (n == 256) = false
  b3 : (n == 836) = false
  b4 : (n == 324) = false
  b5 : (n == 260) = false
set_option maxHeartbeats 8000000 in
set_option maxRecDepth 100000 in
theorem rwrite_A (s : VS) (n : Int) (x : Nat) (n0 : Int) (nm : ByteArray) (a m : Int) (w : World) (hs : s.ok) (hx : U x) (hn : NotFive n) (hof : ofR n = (n0, nm, (a : Int), m, false)) :
    Calls Try.prog 34 #[.agg s.cells, .int .i64 n, .int .u64 (x : Int)] w fun e w' => e = .returned (.agg (s).cells) ∧ KpN w w' := by
  have b1 := hn.b1
  have b2 := hn.b2
  have b3 := hn.b3
  have b4 := hn.b4
  have b5 := hn.b5
  have ofc : ∀ w, Calls Try.prog 55 #[.int .i64 n] w fun e w' => e = .returned (.tuple #[.agg (rowC n0 nm (a : Int) m), .bool false]) ∧ KpN w w' := fun w => by
    have := of_c n w; rw [hof] at this; exact this
  have Ofc := Aside0.mk ofc
  clear ofc hof hn
  go_enter Try.func34, Try.ntmps34
  go_wp2_with (first | ((with_reducible refine gate_dst (N := 3) rfl ?_); refine bx_ev rfl rfl (N := 3) rfl (s.cells) rfl ?_; intro g hg_g w1 hb_g hk_g; have Hg_g := Aside0.mk hg_g; clear hg_g) | ((with_reducible refine gate_dst (N := 6) rfl ?_); refine al_ev rfl rfl (N := 6) rfl _ (zeroR _) ?_; intro h hg_h w2 hb_h hk_h; have Hg_h := Aside0.mk hg_h; clear hg_h))
  have hgh : h ≠ g := by have := Hg_h.out; have := blk_lt hb_g; omega
  have hgw : w.heap.size ≤ g := by have := Hg_g.out; omega
  have hhw : w.heap.size ≤ h := by have := Hg_h.out; have := hk_g.size; omega
  have hI2 : St RT w2 g s := (St.mk hb_g).kp hk_h (fun h => h)
  have hR2 : St RT w2 h (VS.mk 0 fun _ => 0) := St.mk hb_h
  have K2 := hk_g.trans hk_h
  clear hb_g hb_h hk_g hk_h Hg_g Hg_h
  refine (Ofc.out _).mono ?_
  rintro e w3 ⟨rfl, hk3⟩
  go_wp2_with (first
    | (((with_reducible refine gate_dst (N := 8) rfl ?_); refine al_ev rfl rfl (N := 8) rfl _ (zeroRow _) ?_; intro r hg_r w4 hb_r hk_r; have Hg_r := Aside0.mk hg_r; clear hg_r); have hI4 : St RT w4 g s := (hI2.kp hk3 (fun h => h)).kp hk_r (fun h => h); have hR4 : St RT w4 h (VS.mk 0 fun _ => 0) := (hR2.kp hk3 (fun h => h)).kp hk_r (fun h => h); have hgr : g ≠ r := (by have := Hg_r.out; have := (hI2.kp hk3 (fun h => h)).lt; omega); have hhr : h ≠ r := (by have := Hg_r.out; have := (hR2.kp hk3 (fun h => h)).lt; omega); have hwr : w.heap.size ≤ r := (by have := Hg_r.out; have := (K2.trans hk3).size; omega); have K4 := (K2.trans hk3).trans hk_r)
    | ((with_reducible refine gate_store (t := 92) (p := 8) rfl ?_); refine st_ev rfl rfl rfl r (rowC n0 nm (a : Int) m) _ _ rfl rfl hb_r infoRow rfl (rowC_one _ _ _ _) ?_; intro w5 hs5 ks5; have hB5 : Bk w5 r (rowC n0 nm (a : Int) m) 92 := ⟨hs5⟩; have r2 : w5.cell? ⟨r, 2, none⟩ = some (.int .i64 (a : Int)) := hB5.c 2; have r3 : w5.cell? ⟨r, 3, none⟩ = some (.int .u64 m) := hB5.c 3; have hI5 := hI4.kp ks5 hgr; have hR5 := hR4.kp ks5 hhr; have K5 : KpN w w5 := K4.then ks5 (fun i hi (e : i = r) => by omega)) | ((with_reducible refine gate_dst (N := 89) rfl ?_); refine wpList_load_row rfl 34 _ rfl g rfl _ (s.cells) (0, 0) _ (hI5.blk) Try.underlying34 rfl infoR ?_) | ((with_reducible refine gate_store (t := 34) (p := 6) rfl ?_); refine st_ev rfl rfl rfl h (s.cells) _ _ rfl rfl (hR5.blk) infoR rfl (VS.one _) ?_; intro wz hs_wz ks_wz))
  refine bodyPost_ret (results_cell_row rfl _ _ h 34 (s.cells) (0, 0) _ rfl (hs_wz) Try.underlying34 rfl infoR) rfl ?_
  exact ⟨rfl, K5.then ks_wz fun i hi (e : i = h) => by omega⟩
set_option maxHeartbeats 8000000 in
set_option maxRecDepth 100000 in
theorem rwrite_B (s : VS) (n : Int) (x : Nat) (n0 : Int) (nm : ByteArray) (a m : Int) (ha : a < 0) (w : World) (hs : s.ok) (hx : U x) (hn : NotFive n) (hof : ofR n = (n0, nm, (a : Int), m, true)) :
    Calls Try.prog 34 #[.agg s.cells, .int .i64 n, .int .u64 (x : Int)] w fun e w' => e = .returned (.agg (s).cells) ∧ KpN w w' := by
  have b1 := hn.b1
  have b2 := hn.b2
  have b3 := hn.b3
  have b4 := hn.b4
  have b5 := hn.b5
  have ofc : ∀ w, Calls Try.prog 55 #[.int .i64 n] w fun e w' => e = .returned (.tuple #[.agg (rowC n0 nm (a : Int) m), .bool true]) ∧ KpN w w' := fun w => by
    have := of_c n w; rw [hof] at this; exact this
  have Ofc := Aside0.mk ofc
  clear ofc hof hn
  have hb : decide (a < 0) = true := decide_eq_true ha
  go_enter Try.func34, Try.ntmps34
  go_wp2_with (first | ((with_reducible refine gate_dst (N := 3) rfl ?_); refine bx_ev rfl rfl (N := 3) rfl (s.cells) rfl ?_; intro g hg_g w1 hb_g hk_g; have Hg_g := Aside0.mk hg_g; clear hg_g) | ((with_reducible refine gate_dst (N := 6) rfl ?_); refine al_ev rfl rfl (N := 6) rfl _ (zeroR _) ?_; intro h hg_h w2 hb_h hk_h; have Hg_h := Aside0.mk hg_h; clear hg_h))
  have hgh : h ≠ g := by have := Hg_h.out; have := blk_lt hb_g; omega
  have hgw : w.heap.size ≤ g := by have := Hg_g.out; omega
  have hhw : w.heap.size ≤ h := by have := Hg_h.out; have := hk_g.size; omega
  have hI2 : St RT w2 g s := (St.mk hb_g).kp hk_h (fun h => h)
  have hR2 : St RT w2 h (VS.mk 0 fun _ => 0) := St.mk hb_h
  have K2 := hk_g.trans hk_h
  clear hb_g hb_h hk_g hk_h Hg_g Hg_h
  refine (Ofc.out _).mono ?_
  rintro e w3 ⟨rfl, hk3⟩
  go_wp2_with (first
    | (((with_reducible refine gate_dst (N := 8) rfl ?_); refine al_ev rfl rfl (N := 8) rfl _ (zeroRow _) ?_; intro r hg_r w4 hb_r hk_r; have Hg_r := Aside0.mk hg_r; clear hg_r); have hI4 : St RT w4 g s := (hI2.kp hk3 (fun h => h)).kp hk_r (fun h => h); have hR4 : St RT w4 h (VS.mk 0 fun _ => 0) := (hR2.kp hk3 (fun h => h)).kp hk_r (fun h => h); have hgr : g ≠ r := (by have := Hg_r.out; have := (hI2.kp hk3 (fun h => h)).lt; omega); have hhr : h ≠ r := (by have := Hg_r.out; have := (hR2.kp hk3 (fun h => h)).lt; omega); have hwr : w.heap.size ≤ r := (by have := Hg_r.out; have := (K2.trans hk3).size; omega); have K4 := (K2.trans hk3).trans hk_r)
    | ((with_reducible refine gate_store (t := 92) (p := 8) rfl ?_); refine st_ev rfl rfl rfl r (rowC n0 nm (a : Int) m) _ _ rfl rfl hb_r infoRow rfl (rowC_one _ _ _ _) ?_; intro w5 hs5 ks5; have hB5 : Bk w5 r (rowC n0 nm (a : Int) m) 92 := ⟨hs5⟩; have r2 : w5.cell? ⟨r, 2, none⟩ = some (.int .i64 (a : Int)) := hB5.c 2; have r3 : w5.cell? ⟨r, 3, none⟩ = some (.int .u64 m) := hB5.c 3; have hI5 := hI4.kp ks5 hgr; have hR5 := hR4.kp ks5 hhr; have K5 : KpN w w5 := K4.then ks5 (fun i hi (e : i = r) => by omega)) | ((with_reducible refine gate_dst (N := 89) rfl ?_); refine wpList_load_row rfl 34 _ rfl g rfl _ (s.cells) (0, 0) _ (hI5.blk) Try.underlying34 rfl infoR ?_) | ((with_reducible refine gate_store (t := 34) (p := 6) rfl ?_); refine st_ev rfl rfl rfl h (s.cells) _ _ rfl rfl (hR5.blk) infoR rfl (VS.one _) ?_; intro wz hs_wz ks_wz))
  refine bodyPost_ret (results_cell_row rfl _ _ h 34 (s.cells) (0, 0) _ rfl (hs_wz) Try.underlying34 rfl infoR) rfl ?_
  exact ⟨rfl, K5.then ks_wz fun i hi (e : i = h) => by omega⟩
set_option maxHeartbeats 8000000 in
set_option maxRecDepth 100000 in
theorem rwrite_C (s : VS) (n : Int) (x : Nat) (n0 : Int) (nm : ByteArray) (a : Int) (ha : ¬ a < 0) (w : World) (hs : s.ok) (hx : U x) (hn : NotFive n) (hof : ofR n = (n0, nm, (a : Int), 0, true)) :
    Calls Try.prog 34 #[.agg s.cells, .int .i64 n, .int .u64 (x : Int)] w fun e w' => e = .returned (.agg (s).cells) ∧ KpN w w' := by
  have b1 := hn.b1
  have b2 := hn.b2
  have b3 := hn.b3
  have b4 := hn.b4
  have b5 := hn.b5
  have ofc : ∀ w, Calls Try.prog 55 #[.int .i64 n] w fun e w' => e = .returned (.tuple #[.agg (rowC n0 nm (a : Int) 0), .bool true]) ∧ KpN w w' := fun w => by
    have := of_c n w; rw [hof] at this; exact this
  have Ofc := Aside0.mk ofc
  clear ofc hof hn
  have hb : decide (a < 0) = false := decide_eq_false ha
  go_enter Try.func34, Try.ntmps34
  go_wp2_with (first | ((with_reducible refine gate_dst (N := 3) rfl ?_); refine bx_ev rfl rfl (N := 3) rfl (s.cells) rfl ?_; intro g hg_g w1 hb_g hk_g; have Hg_g := Aside0.mk hg_g; clear hg_g) | ((with_reducible refine gate_dst (N := 6) rfl ?_); refine al_ev rfl rfl (N := 6) rfl _ (zeroR _) ?_; intro h hg_h w2 hb_h hk_h; have Hg_h := Aside0.mk hg_h; clear hg_h))
  have hgh : h ≠ g := by have := Hg_h.out; have := blk_lt hb_g; omega
  have hgw : w.heap.size ≤ g := by have := Hg_g.out; omega
  have hhw : w.heap.size ≤ h := by have := Hg_h.out; have := hk_g.size; omega
  have hI2 : St RT w2 g s := (St.mk hb_g).kp hk_h (fun h => h)
  have hR2 : St RT w2 h (VS.mk 0 fun _ => 0) := St.mk hb_h
  have K2 := hk_g.trans hk_h
  clear hb_g hb_h hk_g hk_h Hg_g Hg_h
  refine (Ofc.out _).mono ?_
  rintro e w3 ⟨rfl, hk3⟩
  go_wp2_with (first
    | (((with_reducible refine gate_dst (N := 8) rfl ?_); refine al_ev rfl rfl (N := 8) rfl _ (zeroRow _) ?_; intro r hg_r w4 hb_r hk_r; have Hg_r := Aside0.mk hg_r; clear hg_r); have hI4 : St RT w4 g s := (hI2.kp hk3 (fun h => h)).kp hk_r (fun h => h); have hR4 : St RT w4 h (VS.mk 0 fun _ => 0) := (hR2.kp hk3 (fun h => h)).kp hk_r (fun h => h); have hgr : g ≠ r := (by have := Hg_r.out; have := (hI2.kp hk3 (fun h => h)).lt; omega); have hhr : h ≠ r := (by have := Hg_r.out; have := (hR2.kp hk3 (fun h => h)).lt; omega); have hwr : w.heap.size ≤ r := (by have := Hg_r.out; have := (K2.trans hk3).size; omega); have K4 := (K2.trans hk3).trans hk_r)
    | ((with_reducible refine gate_store (t := 92) (p := 8) rfl ?_); refine st_ev rfl rfl rfl r (rowC n0 nm (a : Int) 0) _ _ rfl rfl hb_r infoRow rfl (rowC_one _ _ _ _) ?_; intro w5 hs5 ks5; have hB5 : Bk w5 r (rowC n0 nm (a : Int) 0) 92 := ⟨hs5⟩; have r2 : w5.cell? ⟨r, 2, none⟩ = some (.int .i64 (a : Int)) := hB5.c 2; have r3 : w5.cell? ⟨r, 3, none⟩ = some (.int .u64 0) := hB5.c 3; have hI5 := hI4.kp ks5 hgr; have hR5 := hR4.kp ks5 hhr; have K5 : KpN w w5 := K4.then ks5 (fun i hi (e : i = r) => by omega)) | ((with_reducible refine gate_dst (N := 89) rfl ?_); refine wpList_load_row rfl 34 _ rfl g rfl _ (s.cells) (0, 0) _ (hI5.blk) Try.underlying34 rfl infoR ?_) | ((with_reducible refine gate_store (t := 34) (p := 6) rfl ?_); refine st_ev rfl rfl rfl h (s.cells) _ _ rfl rfl (hR5.blk) infoR rfl (VS.one _) ?_; intro wz hs_wz ks_wz))
  refine bodyPost_ret (results_cell_row rfl _ _ h 34 (s.cells) (0, 0) _ rfl (hs_wz) Try.underlying34 rfl infoR) rfl ?_
  exact ⟨rfl, K5.then ks_wz fun i hi (e : i = h) => by omega⟩
set_option maxHeartbeats 8000000 in
set_option maxRecDepth 100000 in
theorem rwrite_D6 (s : VS) (n : Int) (x : Nat) (n0 : Int) (nm : ByteArray) (m : Nat) (hmz : m ≠ 0) (hmU : U m) (hg : getW x 1 1 = 1) (w : World) (hs : s.ok) (hx : U x) (hn : NotFive n) (hof : ofR n = (n0, nm, 6, (m : Int), true)) :
    Calls Try.prog 34 #[.agg s.cells, .int .i64 n, .int .u64 (x : Int)] w fun e w' => e = .returned (.agg (s).cells) ∧ KpN w w' := by
  have b1 := hn.b1
  have b2 := hn.b2
  have b3 := hn.b3
  have b4 := hn.b4
  have b5 := hn.b5
  have ofc : ∀ w, Calls Try.prog 55 #[.int .i64 n] w fun e w' => e = .returned (.tuple #[.agg (rowC n0 nm 6 (m : Int)), .bool true]) ∧ KpN w w' := fun w => by
    have := of_c n w; rw [hof] at this; exact this
  have Ofc := Aside0.mk ofc
  clear ofc hof hn
  have hm0 : ((m : Int) == 0) = false := by rw [beq_eq_false_iff_ne]; omega
  have hm1 : U m := hmU
  clear hmz hmU
  have hb : (((getW x 1 1 : Nat) : Int) == 1) = true := by rw [hg]; rfl
  clear hg
  go_enter Try.func34, Try.ntmps34
  go_wp2_with (first | ((with_reducible refine gate_dst (N := 3) rfl ?_); refine bx_ev rfl rfl (N := 3) rfl (s.cells) rfl ?_; intro g hg_g w1 hb_g hk_g; have Hg_g := Aside0.mk hg_g; clear hg_g) | ((with_reducible refine gate_dst (N := 6) rfl ?_); refine al_ev rfl rfl (N := 6) rfl _ (zeroR _) ?_; intro h hg_h w2 hb_h hk_h; have Hg_h := Aside0.mk hg_h; clear hg_h))
  have hgh : h ≠ g := by have := Hg_h.out; have := blk_lt hb_g; omega
  have hgw : w.heap.size ≤ g := by have := Hg_g.out; omega
  have hhw : w.heap.size ≤ h := by have := Hg_h.out; have := hk_g.size; omega
  have hI2 : St RT w2 g s := (St.mk hb_g).kp hk_h (fun h => h)
  have hR2 : St RT w2 h (VS.mk 0 fun _ => 0) := St.mk hb_h
  have K2 := hk_g.trans hk_h
  clear hb_g hb_h hk_g hk_h Hg_g Hg_h
  refine (Ofc.out _).mono ?_
  rintro e w3 ⟨rfl, hk3⟩
  go_wp2_with (first
    | (((with_reducible refine gate_dst (N := 8) rfl ?_); refine al_ev rfl rfl (N := 8) rfl _ (zeroRow _) ?_; intro r hg_r w4 hb_r hk_r; have Hg_r := Aside0.mk hg_r; clear hg_r); have hI4 : St RT w4 g s := (hI2.kp hk3 (fun h => h)).kp hk_r (fun h => h); have hR4 : St RT w4 h (VS.mk 0 fun _ => 0) := (hR2.kp hk3 (fun h => h)).kp hk_r (fun h => h); have hgr : g ≠ r := (by have := Hg_r.out; have := (hI2.kp hk3 (fun h => h)).lt; omega); have hhr : h ≠ r := (by have := Hg_r.out; have := (hR2.kp hk3 (fun h => h)).lt; omega); have hwr : w.heap.size ≤ r := (by have := Hg_r.out; have := (K2.trans hk3).size; omega); have K4 := (K2.trans hk3).trans hk_r)
    | ((with_reducible refine gate_store (t := 92) (p := 8) rfl ?_); refine st_ev rfl rfl rfl r (rowC n0 nm 6 (m : Int)) _ _ rfl rfl hb_r infoRow rfl (rowC_one _ _ _ _) ?_; intro w5 hs5 ks5; have hB5 : Bk w5 r (rowC n0 nm 6 (m : Int)) 92 := ⟨hs5⟩; have r2 : w5.cell? ⟨r, 2, none⟩ = some (.int .i64 6) := hB5.c 2; have r3 : w5.cell? ⟨r, 3, none⟩ = some (.int .u64 (m : Int)) := hB5.c 3; have hI5 := hI4.kp ks5 hgr; have hR5 := hR4.kp ks5 hhr; have K5 : KpN w w5 := K4.then ks5 (fun i hi (e : i = r) => by omega)))
  refine (getr_c x 1 1 _ hx).mono ?_
  rintro e w6 ⟨rfl, hk6⟩
  have hI6 := hI5.kp hk6 (fun h => h)
  have hR6 := hR5.kp hk6 (fun h => h)
  have hB6 := hB5.kp hk6 (fun h => h)
  have r2 : w6.cell? ⟨r, 2, none⟩ = some (.int .i64 6) := hB6.c 2
  have r3 : w6.cell? ⟨r, 3, none⟩ = some (.int .u64 (m : Int)) := hB6.c 3
  have K6 := K5.trans hk6
  go_wp2_with (first | ((with_reducible refine gate_dst (N := 103) rfl ?_); refine wpList_load_row rfl 34 _ rfl g rfl _ (s.cells) (0, 0) _ (hI6.blk) Try.underlying34 rfl infoR ?_) | ((with_reducible refine gate_store (t := 34) (p := 6) rfl ?_); refine st_ev rfl rfl rfl h (s.cells) _ _ rfl rfl (hR6.blk) infoR rfl (VS.one _) ?_; intro wz hs_wz ks_wz))
  refine bodyPost_ret (results_cell_row rfl _ _ h 34 (s.cells) (0, 0) _ rfl (hs_wz) Try.underlying34 rfl infoR) rfl ?_
  exact ⟨rfl, K6.then ks_wz fun i hi (e : i = h) => by omega⟩
set_option maxHeartbeats 8000000 in
set_option maxRecDepth 100000 in
theorem rwrite_F6 (s : VS) (n : Int) (x : Nat) (n0 : Int) (nm : ByteArray) (m : Nat) (hmz : m ≠ 0) (hmU : U m) (hg : getW x 1 1 ≠ 1) (w : World) (hs : s.ok) (hx : U x) (hn : NotFive n) (hof : ofR n = (n0, nm, 6, (m : Int), true)) :
    Calls Try.prog 34 #[.agg s.cells, .int .i64 n, .int .u64 (x : Int)] w fun e w' => e = .returned (.agg (s.set 7 (x &&& m)).cells) ∧ KpN w w' := by
  have b1 := hn.b1
  have b2 := hn.b2
  have b3 := hn.b3
  have b4 := hn.b4
  have b5 := hn.b5
  have ofc : ∀ w, Calls Try.prog 55 #[.int .i64 n] w fun e w' => e = .returned (.tuple #[.agg (rowC n0 nm 6 (m : Int)), .bool true]) ∧ KpN w w' := fun w => by
    have := of_c n w; rw [hof] at this; exact this
  have Ofc := Aside0.mk ofc
  clear ofc hof hn
  have hm0 : ((m : Int) == 0) = false := by rw [beq_eq_false_iff_ne]; omega
  have hm1 : U m := hmU
  clear hmz hmU
  have hb : (((getW x 1 1 : Nat) : Int) == 1) = false := by rw [beq_eq_false_iff_ne]; omega
  clear hg
  go_enter Try.func34, Try.ntmps34
  go_wp2_with (first | ((with_reducible refine gate_dst (N := 3) rfl ?_); refine bx_ev rfl rfl (N := 3) rfl (s.cells) rfl ?_; intro g hg_g w1 hb_g hk_g; have Hg_g := Aside0.mk hg_g; clear hg_g) | ((with_reducible refine gate_dst (N := 6) rfl ?_); refine al_ev rfl rfl (N := 6) rfl _ (zeroR _) ?_; intro h hg_h w2 hb_h hk_h; have Hg_h := Aside0.mk hg_h; clear hg_h))
  have hgh : h ≠ g := by have := Hg_h.out; have := blk_lt hb_g; omega
  have hgw : w.heap.size ≤ g := by have := Hg_g.out; omega
  have hhw : w.heap.size ≤ h := by have := Hg_h.out; have := hk_g.size; omega
  have hI2 : St RT w2 g s := (St.mk hb_g).kp hk_h (fun h => h)
  have hR2 : St RT w2 h (VS.mk 0 fun _ => 0) := St.mk hb_h
  have K2 := hk_g.trans hk_h
  clear hb_g hb_h hk_g hk_h Hg_g Hg_h
  refine (Ofc.out _).mono ?_
  rintro e w3 ⟨rfl, hk3⟩
  go_wp2_with (first
    | (((with_reducible refine gate_dst (N := 8) rfl ?_); refine al_ev rfl rfl (N := 8) rfl _ (zeroRow _) ?_; intro r hg_r w4 hb_r hk_r; have Hg_r := Aside0.mk hg_r; clear hg_r); have hI4 : St RT w4 g s := (hI2.kp hk3 (fun h => h)).kp hk_r (fun h => h); have hR4 : St RT w4 h (VS.mk 0 fun _ => 0) := (hR2.kp hk3 (fun h => h)).kp hk_r (fun h => h); have hgr : g ≠ r := (by have := Hg_r.out; have := (hI2.kp hk3 (fun h => h)).lt; omega); have hhr : h ≠ r := (by have := Hg_r.out; have := (hR2.kp hk3 (fun h => h)).lt; omega); have hwr : w.heap.size ≤ r := (by have := Hg_r.out; have := (K2.trans hk3).size; omega); have K4 := (K2.trans hk3).trans hk_r)
    | ((with_reducible refine gate_store (t := 92) (p := 8) rfl ?_); refine st_ev rfl rfl rfl r (rowC n0 nm 6 (m : Int)) _ _ rfl rfl hb_r infoRow rfl (rowC_one _ _ _ _) ?_; intro w5 hs5 ks5; have hB5 : Bk w5 r (rowC n0 nm 6 (m : Int)) 92 := ⟨hs5⟩; have r2 : w5.cell? ⟨r, 2, none⟩ = some (.int .i64 6) := hB5.c 2; have r3 : w5.cell? ⟨r, 3, none⟩ = some (.int .u64 (m : Int)) := hB5.c 3; have hI5 := hI4.kp ks5 hgr; have hR5 := hR4.kp ks5 hhr; have K5 : KpN w w5 := K4.then ks5 (fun i hi (e : i = r) => by omega)))
  refine (getr_c x 1 1 _ hx).mono ?_
  rintro e w6 ⟨rfl, hk6⟩
  have hI6 := hI5.kp hk6 (fun h => h)
  have hR6 := hR5.kp hk6 (fun h => h)
  have hB6 := hB5.kp hk6 (fun h => h)
  have r2 : w6.cell? ⟨r, 2, none⟩ = some (.int .i64 6) := hB6.c 2
  have r3 : w6.cell? ⟨r, 3, none⟩ = some (.int .u64 (m : Int)) := hB6.c 3
  have K6 := K5.trans hk6
  go_wp2_with (fail)
  refine (getr_c x 60 4 _ hx).mono ?_
  rintro e w7 ⟨rfl, hk7⟩
  have hI7 := hI6.kp hk7 (fun h => h)
  have hR7 := hR6.kp hk7 (fun h => h)
  have hB7 := hB6.kp hk7 (fun h => h)
  have r2 : w7.cell? ⟨r, 2, none⟩ = some (.int .i64 6) := hB7.c 2
  have r3 : w7.cell? ⟨r, 3, none⟩ = some (.int .u64 (m : Int)) := hB7.c 3
  have K7 := K6.trans hk7
  go_wp2_with (fail)
  have cJ := hI7.c 7
  have fJ := hI7.f 7
  go_region_with (go_at_call 36; refine (and_r x m _ hx hm1).mono ?_; rintro e wy ⟨rfl, hky⟩; have hBy := hB7.drew.kp hky (fun h => h); have r2y : wy.cell? ⟨r, 2, none⟩ = some (.int .i64 6) := hBy.c 2; have hIy := hI7.drew.kp hky (fun h => h); have cy := hIy.c 7; have fy := hIy.f 7)
  all_goals
    have hRy := hR7.drew.kp hky (fun h => h)
    have Ky := K7.drew.trans hky
    go_wp2_with (first | ((with_reducible refine gate_dst (N := 126) rfl ?_); refine wpList_load_row rfl 34 _ rfl g rfl _ ((s.set 7 (x &&& m)).cells) (0, 0) _ ((hIy.set 7 _).blk) Try.underlying34 rfl infoR ?_) | ((with_reducible refine gate_store (t := 34) (p := 6) rfl ?_); refine st_ev rfl rfl rfl h ((s.set 7 (x &&& m)).cells) _ _ rfl rfl ((hRy.far hgh _).blk) infoR rfl (VS.one _) ?_; intro wz hs_wz ks_wz))
    refine bodyPost_ret (results_cell_row rfl _ _ h 34 ((s.set 7 (x &&& m)).cells) (0, 0) _ rfl (hs_wz) Try.underlying34 rfl infoR) rfl ?_
    exact ⟨rfl, (Ky.setCell (p := ⟨g, 7, none⟩) (.inr hgw) _).then ks_wz fun i hi (e : i = h) => by omega⟩
set_option maxHeartbeats 8000000 in
set_option maxRecDepth 100000 in
theorem rwrite_D12 (s : VS) (n : Int) (x : Nat) (n0 : Int) (nm : ByteArray) (m : Nat) (hmz : m ≠ 0) (hmU : U m) (hg : getW x 1 1 = 1) (w : World) (hs : s.ok) (hx : U x) (hn : NotFive n) (hof : ofR n = (n0, nm, 12, (m : Int), true)) :
    Calls Try.prog 34 #[.agg s.cells, .int .i64 n, .int .u64 (x : Int)] w fun e w' => e = .returned (.agg (s).cells) ∧ KpN w w' := by
  have b1 := hn.b1
  have b2 := hn.b2
  have b3 := hn.b3
  have b4 := hn.b4
  have b5 := hn.b5
  have ofc : ∀ w, Calls Try.prog 55 #[.int .i64 n] w fun e w' => e = .returned (.tuple #[.agg (rowC n0 nm 12 (m : Int)), .bool true]) ∧ KpN w w' := fun w => by
    have := of_c n w; rw [hof] at this; exact this
  have Ofc := Aside0.mk ofc
  clear ofc hof hn
  have hm0 : ((m : Int) == 0) = false := by rw [beq_eq_false_iff_ne]; omega
  have hm1 : U m := hmU
  clear hmz hmU
  have hb : (((getW x 1 1 : Nat) : Int) == 1) = true := by rw [hg]; rfl
  clear hg
  go_enter Try.func34, Try.ntmps34
  go_wp2_with (first | ((with_reducible refine gate_dst (N := 3) rfl ?_); refine bx_ev rfl rfl (N := 3) rfl (s.cells) rfl ?_; intro g hg_g w1 hb_g hk_g; have Hg_g := Aside0.mk hg_g; clear hg_g) | ((with_reducible refine gate_dst (N := 6) rfl ?_); refine al_ev rfl rfl (N := 6) rfl _ (zeroR _) ?_; intro h hg_h w2 hb_h hk_h; have Hg_h := Aside0.mk hg_h; clear hg_h))
  have hgh : h ≠ g := by have := Hg_h.out; have := blk_lt hb_g; omega
  have hgw : w.heap.size ≤ g := by have := Hg_g.out; omega
  have hhw : w.heap.size ≤ h := by have := Hg_h.out; have := hk_g.size; omega
  have hI2 : St RT w2 g s := (St.mk hb_g).kp hk_h (fun h => h)
  have hR2 : St RT w2 h (VS.mk 0 fun _ => 0) := St.mk hb_h
  have K2 := hk_g.trans hk_h
  clear hb_g hb_h hk_g hk_h Hg_g Hg_h
  refine (Ofc.out _).mono ?_
  rintro e w3 ⟨rfl, hk3⟩
  go_wp2_with (first
    | (((with_reducible refine gate_dst (N := 8) rfl ?_); refine al_ev rfl rfl (N := 8) rfl _ (zeroRow _) ?_; intro r hg_r w4 hb_r hk_r; have Hg_r := Aside0.mk hg_r; clear hg_r); have hI4 : St RT w4 g s := (hI2.kp hk3 (fun h => h)).kp hk_r (fun h => h); have hR4 : St RT w4 h (VS.mk 0 fun _ => 0) := (hR2.kp hk3 (fun h => h)).kp hk_r (fun h => h); have hgr : g ≠ r := (by have := Hg_r.out; have := (hI2.kp hk3 (fun h => h)).lt; omega); have hhr : h ≠ r := (by have := Hg_r.out; have := (hR2.kp hk3 (fun h => h)).lt; omega); have hwr : w.heap.size ≤ r := (by have := Hg_r.out; have := (K2.trans hk3).size; omega); have K4 := (K2.trans hk3).trans hk_r)
    | ((with_reducible refine gate_store (t := 92) (p := 8) rfl ?_); refine st_ev rfl rfl rfl r (rowC n0 nm 12 (m : Int)) _ _ rfl rfl hb_r infoRow rfl (rowC_one _ _ _ _) ?_; intro w5 hs5 ks5; have hB5 : Bk w5 r (rowC n0 nm 12 (m : Int)) 92 := ⟨hs5⟩; have r2 : w5.cell? ⟨r, 2, none⟩ = some (.int .i64 12) := hB5.c 2; have r3 : w5.cell? ⟨r, 3, none⟩ = some (.int .u64 (m : Int)) := hB5.c 3; have hI5 := hI4.kp ks5 hgr; have hR5 := hR4.kp ks5 hhr; have K5 : KpN w w5 := K4.then ks5 (fun i hi (e : i = r) => by omega)))
  refine (getr_c x 1 1 _ hx).mono ?_
  rintro e w6 ⟨rfl, hk6⟩
  have hI6 := hI5.kp hk6 (fun h => h)
  have hR6 := hR5.kp hk6 (fun h => h)
  have hB6 := hB5.kp hk6 (fun h => h)
  have r2 : w6.cell? ⟨r, 2, none⟩ = some (.int .i64 12) := hB6.c 2
  have r3 : w6.cell? ⟨r, 3, none⟩ = some (.int .u64 (m : Int)) := hB6.c 3
  have K6 := K5.trans hk6
  go_wp2_with (first | ((with_reducible refine gate_dst (N := 103) rfl ?_); refine wpList_load_row rfl 34 _ rfl g rfl _ (s.cells) (0, 0) _ (hI6.blk) Try.underlying34 rfl infoR ?_) | ((with_reducible refine gate_store (t := 34) (p := 6) rfl ?_); refine st_ev rfl rfl rfl h (s.cells) _ _ rfl rfl (hR6.blk) infoR rfl (VS.one _) ?_; intro wz hs_wz ks_wz))
  refine bodyPost_ret (results_cell_row rfl _ _ h 34 (s.cells) (0, 0) _ rfl (hs_wz) Try.underlying34 rfl infoR) rfl ?_
  exact ⟨rfl, K6.then ks_wz fun i hi (e : i = h) => by omega⟩
set_option maxHeartbeats 8000000 in
set_option maxRecDepth 100000 in
theorem rwrite_F12 (s : VS) (n : Int) (x : Nat) (n0 : Int) (nm : ByteArray) (m : Nat) (hmz : m ≠ 0) (hmU : U m) (hg : getW x 1 1 ≠ 1) (w : World) (hs : s.ok) (hx : U x) (hn : NotFive n) (hof : ofR n = (n0, nm, 12, (m : Int), true)) :
    Calls Try.prog 34 #[.agg s.cells, .int .i64 n, .int .u64 (x : Int)] w fun e w' => e = .returned (.agg (s.set 13 (x &&& m)).cells) ∧ KpN w w' := by
  have b1 := hn.b1
  have b2 := hn.b2
  have b3 := hn.b3
  have b4 := hn.b4
  have b5 := hn.b5
  have ofc : ∀ w, Calls Try.prog 55 #[.int .i64 n] w fun e w' => e = .returned (.tuple #[.agg (rowC n0 nm 12 (m : Int)), .bool true]) ∧ KpN w w' := fun w => by
    have := of_c n w; rw [hof] at this; exact this
  have Ofc := Aside0.mk ofc
  clear ofc hof hn
  have hm0 : ((m : Int) == 0) = false := by rw [beq_eq_false_iff_ne]; omega
  have hm1 : U m := hmU
  clear hmz hmU
  have hb : (((getW x 1 1 : Nat) : Int) == 1) = false := by rw [beq_eq_false_iff_ne]; omega
  clear hg
  go_enter Try.func34, Try.ntmps34
  go_wp2_with (first | ((with_reducible refine gate_dst (N := 3) rfl ?_); refine bx_ev rfl rfl (N := 3) rfl (s.cells) rfl ?_; intro g hg_g w1 hb_g hk_g; have Hg_g := Aside0.mk hg_g; clear hg_g) | ((with_reducible refine gate_dst (N := 6) rfl ?_); refine al_ev rfl rfl (N := 6) rfl _ (zeroR _) ?_; intro h hg_h w2 hb_h hk_h; have Hg_h := Aside0.mk hg_h; clear hg_h))
  have hgh : h ≠ g := by have := Hg_h.out; have := blk_lt hb_g; omega
  have hgw : w.heap.size ≤ g := by have := Hg_g.out; omega
  have hhw : w.heap.size ≤ h := by have := Hg_h.out; have := hk_g.size; omega
  have hI2 : St RT w2 g s := (St.mk hb_g).kp hk_h (fun h => h)
  have hR2 : St RT w2 h (VS.mk 0 fun _ => 0) := St.mk hb_h
  have K2 := hk_g.trans hk_h
  clear hb_g hb_h hk_g hk_h Hg_g Hg_h
  refine (Ofc.out _).mono ?_
  rintro e w3 ⟨rfl, hk3⟩
  go_wp2_with (first
    | (((with_reducible refine gate_dst (N := 8) rfl ?_); refine al_ev rfl rfl (N := 8) rfl _ (zeroRow _) ?_; intro r hg_r w4 hb_r hk_r; have Hg_r := Aside0.mk hg_r; clear hg_r); have hI4 : St RT w4 g s := (hI2.kp hk3 (fun h => h)).kp hk_r (fun h => h); have hR4 : St RT w4 h (VS.mk 0 fun _ => 0) := (hR2.kp hk3 (fun h => h)).kp hk_r (fun h => h); have hgr : g ≠ r := (by have := Hg_r.out; have := (hI2.kp hk3 (fun h => h)).lt; omega); have hhr : h ≠ r := (by have := Hg_r.out; have := (hR2.kp hk3 (fun h => h)).lt; omega); have hwr : w.heap.size ≤ r := (by have := Hg_r.out; have := (K2.trans hk3).size; omega); have K4 := (K2.trans hk3).trans hk_r)
    | ((with_reducible refine gate_store (t := 92) (p := 8) rfl ?_); refine st_ev rfl rfl rfl r (rowC n0 nm 12 (m : Int)) _ _ rfl rfl hb_r infoRow rfl (rowC_one _ _ _ _) ?_; intro w5 hs5 ks5; have hB5 : Bk w5 r (rowC n0 nm 12 (m : Int)) 92 := ⟨hs5⟩; have r2 : w5.cell? ⟨r, 2, none⟩ = some (.int .i64 12) := hB5.c 2; have r3 : w5.cell? ⟨r, 3, none⟩ = some (.int .u64 (m : Int)) := hB5.c 3; have hI5 := hI4.kp ks5 hgr; have hR5 := hR4.kp ks5 hhr; have K5 : KpN w w5 := K4.then ks5 (fun i hi (e : i = r) => by omega)))
  refine (getr_c x 1 1 _ hx).mono ?_
  rintro e w6 ⟨rfl, hk6⟩
  have hI6 := hI5.kp hk6 (fun h => h)
  have hR6 := hR5.kp hk6 (fun h => h)
  have hB6 := hB5.kp hk6 (fun h => h)
  have r2 : w6.cell? ⟨r, 2, none⟩ = some (.int .i64 12) := hB6.c 2
  have r3 : w6.cell? ⟨r, 3, none⟩ = some (.int .u64 (m : Int)) := hB6.c 3
  have K6 := K5.trans hk6
  go_wp2_with (fail)
  refine (getr_c x 60 4 _ hx).mono ?_
  rintro e w7 ⟨rfl, hk7⟩
  have hI7 := hI6.kp hk7 (fun h => h)
  have hR7 := hR6.kp hk7 (fun h => h)
  have hB7 := hB6.kp hk7 (fun h => h)
  have r2 : w7.cell? ⟨r, 2, none⟩ = some (.int .i64 12) := hB7.c 2
  have r3 : w7.cell? ⟨r, 3, none⟩ = some (.int .u64 (m : Int)) := hB7.c 3
  have K7 := K6.trans hk7
  go_wp2_with (fail)
  have cJ := hI7.c 13
  have fJ := hI7.f 13
  go_region_with (go_at_call 36; refine (and_r x m _ hx hm1).mono ?_; rintro e wy ⟨rfl, hky⟩; have hBy := hB7.drew.kp hky (fun h => h); have r2y : wy.cell? ⟨r, 2, none⟩ = some (.int .i64 12) := hBy.c 2; have hIy := hI7.drew.kp hky (fun h => h); have cy := hIy.c 13; have fy := hIy.f 13)
  all_goals
    have hRy := hR7.drew.kp hky (fun h => h)
    have Ky := K7.drew.trans hky
    go_wp2_with (first | ((with_reducible refine gate_dst (N := 126) rfl ?_); refine wpList_load_row rfl 34 _ rfl g rfl _ ((s.set 13 (x &&& m)).cells) (0, 0) _ ((hIy.set 13 _).blk) Try.underlying34 rfl infoR ?_) | ((with_reducible refine gate_store (t := 34) (p := 6) rfl ?_); refine st_ev rfl rfl rfl h ((s.set 13 (x &&& m)).cells) _ _ rfl rfl ((hRy.far hgh _).blk) infoR rfl (VS.one _) ?_; intro wz hs_wz ks_wz))
    refine bodyPost_ret (results_cell_row rfl _ _ h 34 ((s.set 13 (x &&& m)).cells) (0, 0) _ rfl (hs_wz) Try.underlying34 rfl infoR) rfl ?_
    exact ⟨rfl, (Ky.setCell (p := ⟨g, 13, none⟩) (.inr hgw) _).then ks_wz fun i hi (e : i = h) => by omega⟩
set_option maxHeartbeats 8000000 in
set_option maxRecDepth 100000 in
theorem rwrite_E (s : VS) (n : Int) (x : Nat) (n0 : Int) (nm : ByteArray) (m : Nat) (hmz : m ≠ 0) (hmU : U m) (h0 : getW x 60 4 ≠ 0) (h8 : getW x 60 4 ≠ 8) (w : World) (hs : s.ok) (hx : U x) (hn : NotFive n) (hof : ofR n = (n0, nm, 18, (m : Int), true)) :
    Calls Try.prog 34 #[.agg s.cells, .int .i64 n, .int .u64 (x : Int)] w fun e w' => e = .returned (.agg (s).cells) ∧ KpN w w' := by
  have b1 := hn.b1
  have b2 := hn.b2
  have b3 := hn.b3
  have b4 := hn.b4
  have b5 := hn.b5
  have ofc : ∀ w, Calls Try.prog 55 #[.int .i64 n] w fun e w' => e = .returned (.tuple #[.agg (rowC n0 nm 18 (m : Int)), .bool true]) ∧ KpN w w' := fun w => by
    have := of_c n w; rw [hof] at this; exact this
  have Ofc := Aside0.mk ofc
  clear ofc hof hn
  have hm0 : ((m : Int) == 0) = false := by rw [beq_eq_false_iff_ne]; omega
  have hm1 : U m := hmU
  clear hmz hmU
  have hb : (((getW x 60 4 : Nat) : Int) != 0) = true := by rw [bne_iff_ne]; omega
  have hb8 : (((getW x 60 4 : Nat) : Int) != 8) = true := by rw [bne_iff_ne]; omega
  clear h0 h8
  go_enter Try.func34, Try.ntmps34
  go_wp2_with (first | ((with_reducible refine gate_dst (N := 3) rfl ?_); refine bx_ev rfl rfl (N := 3) rfl (s.cells) rfl ?_; intro g hg_g w1 hb_g hk_g; have Hg_g := Aside0.mk hg_g; clear hg_g) | ((with_reducible refine gate_dst (N := 6) rfl ?_); refine al_ev rfl rfl (N := 6) rfl _ (zeroR _) ?_; intro h hg_h w2 hb_h hk_h; have Hg_h := Aside0.mk hg_h; clear hg_h))
  have hgh : h ≠ g := by have := Hg_h.out; have := blk_lt hb_g; omega
  have hgw : w.heap.size ≤ g := by have := Hg_g.out; omega
  have hhw : w.heap.size ≤ h := by have := Hg_h.out; have := hk_g.size; omega
  have hI2 : St RT w2 g s := (St.mk hb_g).kp hk_h (fun h => h)
  have hR2 : St RT w2 h (VS.mk 0 fun _ => 0) := St.mk hb_h
  have K2 := hk_g.trans hk_h
  clear hb_g hb_h hk_g hk_h Hg_g Hg_h
  refine (Ofc.out _).mono ?_
  rintro e w3 ⟨rfl, hk3⟩
  go_wp2_with (first
    | (((with_reducible refine gate_dst (N := 8) rfl ?_); refine al_ev rfl rfl (N := 8) rfl _ (zeroRow _) ?_; intro r hg_r w4 hb_r hk_r; have Hg_r := Aside0.mk hg_r; clear hg_r); have hI4 : St RT w4 g s := (hI2.kp hk3 (fun h => h)).kp hk_r (fun h => h); have hR4 : St RT w4 h (VS.mk 0 fun _ => 0) := (hR2.kp hk3 (fun h => h)).kp hk_r (fun h => h); have hgr : g ≠ r := (by have := Hg_r.out; have := (hI2.kp hk3 (fun h => h)).lt; omega); have hhr : h ≠ r := (by have := Hg_r.out; have := (hR2.kp hk3 (fun h => h)).lt; omega); have hwr : w.heap.size ≤ r := (by have := Hg_r.out; have := (K2.trans hk3).size; omega); have K4 := (K2.trans hk3).trans hk_r)
    | ((with_reducible refine gate_store (t := 92) (p := 8) rfl ?_); refine st_ev rfl rfl rfl r (rowC n0 nm 18 (m : Int)) _ _ rfl rfl hb_r infoRow rfl (rowC_one _ _ _ _) ?_; intro w5 hs5 ks5; have hB5 : Bk w5 r (rowC n0 nm 18 (m : Int)) 92 := ⟨hs5⟩; have r2 : w5.cell? ⟨r, 2, none⟩ = some (.int .i64 18) := hB5.c 2; have r3 : w5.cell? ⟨r, 3, none⟩ = some (.int .u64 (m : Int)) := hB5.c 3; have hI5 := hI4.kp ks5 hgr; have hR5 := hR4.kp ks5 hhr; have K5 : KpN w w5 := K4.then ks5 (fun i hi (e : i = r) => by omega)))
  refine (getr_c x 60 4 _ hx).mono ?_
  rintro e w6 ⟨rfl, hk6⟩
  have hI6 := hI5.kp hk6 (fun h => h)
  have hR6 := hR5.kp hk6 (fun h => h)
  have hB6 := hB5.kp hk6 (fun h => h)
  have r2 : w6.cell? ⟨r, 2, none⟩ = some (.int .i64 18) := hB6.c 2
  have r3 : w6.cell? ⟨r, 3, none⟩ = some (.int .u64 (m : Int)) := hB6.c 3
  have K6 := K5.trans hk6
  go_wp2_with (first | ((with_reducible refine gate_dst (N := 117) rfl ?_); refine wpList_load_row rfl 34 _ rfl g rfl _ (s.cells) (0, 0) _ (hI6.blk) Try.underlying34 rfl infoR ?_) | ((with_reducible refine gate_store (t := 34) (p := 6) rfl ?_); refine st_ev rfl rfl rfl h (s.cells) _ _ rfl rfl (hR6.blk) infoR rfl (VS.one _) ?_; intro wz hs_wz ks_wz))
  refine bodyPost_ret (results_cell_row rfl _ _ h 34 (s.cells) (0, 0) _ rfl (hs_wz) Try.underlying34 rfl infoR) rfl ?_
  exact ⟨rfl, K6.then ks_wz fun i hi (e : i = h) => by omega⟩
set_option maxHeartbeats 8000000 in
set_option maxRecDepth 100000 in
theorem rwrite_F18a (s : VS) (n : Int) (x : Nat) (n0 : Int) (nm : ByteArray) (m : Nat) (hmz : m ≠ 0) (hmU : U m) (h0 : getW x 60 4 = 0) (w : World) (hs : s.ok) (hx : U x) (hn : NotFive n) (hof : ofR n = (n0, nm, 18, (m : Int), true)) :
    Calls Try.prog 34 #[.agg s.cells, .int .i64 n, .int .u64 (x : Int)] w fun e w' => e = .returned (.agg (s.set 19 (x &&& m)).cells) ∧ KpN w w' := by
  have b1 := hn.b1
  have b2 := hn.b2
  have b3 := hn.b3
  have b4 := hn.b4
  have b5 := hn.b5
  have ofc : ∀ w, Calls Try.prog 55 #[.int .i64 n] w fun e w' => e = .returned (.tuple #[.agg (rowC n0 nm 18 (m : Int)), .bool true]) ∧ KpN w w' := fun w => by
    have := of_c n w; rw [hof] at this; exact this
  have Ofc := Aside0.mk ofc
  clear ofc hof hn
  have hm0 : ((m : Int) == 0) = false := by rw [beq_eq_false_iff_ne]; omega
  have hm1 : U m := hmU
  clear hmz hmU
  have hb : (((getW x 60 4 : Nat) : Int) != 0) = false := by rw [h0]; rfl
  clear h0
  go_enter Try.func34, Try.ntmps34
  go_wp2_with (first | ((with_reducible refine gate_dst (N := 3) rfl ?_); refine bx_ev rfl rfl (N := 3) rfl (s.cells) rfl ?_; intro g hg_g w1 hb_g hk_g; have Hg_g := Aside0.mk hg_g; clear hg_g) | ((with_reducible refine gate_dst (N := 6) rfl ?_); refine al_ev rfl rfl (N := 6) rfl _ (zeroR _) ?_; intro h hg_h w2 hb_h hk_h; have Hg_h := Aside0.mk hg_h; clear hg_h))
  have hgh : h ≠ g := by have := Hg_h.out; have := blk_lt hb_g; omega
  have hgw : w.heap.size ≤ g := by have := Hg_g.out; omega
  have hhw : w.heap.size ≤ h := by have := Hg_h.out; have := hk_g.size; omega
  have hI2 : St RT w2 g s := (St.mk hb_g).kp hk_h (fun h => h)
  have hR2 : St RT w2 h (VS.mk 0 fun _ => 0) := St.mk hb_h
  have K2 := hk_g.trans hk_h
  clear hb_g hb_h hk_g hk_h Hg_g Hg_h
  refine (Ofc.out _).mono ?_
  rintro e w3 ⟨rfl, hk3⟩
  go_wp2_with (first
    | (((with_reducible refine gate_dst (N := 8) rfl ?_); refine al_ev rfl rfl (N := 8) rfl _ (zeroRow _) ?_; intro r hg_r w4 hb_r hk_r; have Hg_r := Aside0.mk hg_r; clear hg_r); have hI4 : St RT w4 g s := (hI2.kp hk3 (fun h => h)).kp hk_r (fun h => h); have hR4 : St RT w4 h (VS.mk 0 fun _ => 0) := (hR2.kp hk3 (fun h => h)).kp hk_r (fun h => h); have hgr : g ≠ r := (by have := Hg_r.out; have := (hI2.kp hk3 (fun h => h)).lt; omega); have hhr : h ≠ r := (by have := Hg_r.out; have := (hR2.kp hk3 (fun h => h)).lt; omega); have hwr : w.heap.size ≤ r := (by have := Hg_r.out; have := (K2.trans hk3).size; omega); have K4 := (K2.trans hk3).trans hk_r)
    | ((with_reducible refine gate_store (t := 92) (p := 8) rfl ?_); refine st_ev rfl rfl rfl r (rowC n0 nm 18 (m : Int)) _ _ rfl rfl hb_r infoRow rfl (rowC_one _ _ _ _) ?_; intro w5 hs5 ks5; have hB5 : Bk w5 r (rowC n0 nm 18 (m : Int)) 92 := ⟨hs5⟩; have r2 : w5.cell? ⟨r, 2, none⟩ = some (.int .i64 18) := hB5.c 2; have r3 : w5.cell? ⟨r, 3, none⟩ = some (.int .u64 (m : Int)) := hB5.c 3; have hI5 := hI4.kp ks5 hgr; have hR5 := hR4.kp ks5 hhr; have K5 : KpN w w5 := K4.then ks5 (fun i hi (e : i = r) => by omega)))
  refine (getr_c x 60 4 _ hx).mono ?_
  rintro e w6 ⟨rfl, hk6⟩
  have hI6 := hI5.kp hk6 (fun h => h)
  have hR6 := hR5.kp hk6 (fun h => h)
  have hB6 := hB5.kp hk6 (fun h => h)
  have r2 : w6.cell? ⟨r, 2, none⟩ = some (.int .i64 18) := hB6.c 2
  have r3 : w6.cell? ⟨r, 3, none⟩ = some (.int .u64 (m : Int)) := hB6.c 3
  have K6 := K5.trans hk6
  go_wp2_with (fail)
  have cJ := hI6.c 19
  have fJ := hI6.f 19
  go_region_with (go_at_call 36; refine (and_r x m _ hx hm1).mono ?_; rintro e wy ⟨rfl, hky⟩; have hBy := hB6.drew.kp hky (fun h => h); have r2y : wy.cell? ⟨r, 2, none⟩ = some (.int .i64 18) := hBy.c 2; have hIy := hI6.drew.kp hky (fun h => h); have cy := hIy.c 19; have fy := hIy.f 19)
  all_goals
    have hRy := hR6.drew.kp hky (fun h => h)
    have Ky := K6.drew.trans hky
    go_wp2_with (first | ((with_reducible refine gate_dst (N := 126) rfl ?_); refine wpList_load_row rfl 34 _ rfl g rfl _ ((s.set 19 (x &&& m)).cells) (0, 0) _ ((hIy.set 19 _).blk) Try.underlying34 rfl infoR ?_) | ((with_reducible refine gate_store (t := 34) (p := 6) rfl ?_); refine st_ev rfl rfl rfl h ((s.set 19 (x &&& m)).cells) _ _ rfl rfl ((hRy.far hgh _).blk) infoR rfl (VS.one _) ?_; intro wz hs_wz ks_wz))
    refine bodyPost_ret (results_cell_row rfl _ _ h 34 ((s.set 19 (x &&& m)).cells) (0, 0) _ rfl (hs_wz) Try.underlying34 rfl infoR) rfl ?_
    exact ⟨rfl, (Ky.setCell (p := ⟨g, 19, none⟩) (.inr hgw) _).then ks_wz fun i hi (e : i = h) => by omega⟩
set_option maxHeartbeats 8000000 in
set_option maxRecDepth 100000 in
theorem rwrite_F18b (s : VS) (n : Int) (x : Nat) (n0 : Int) (nm : ByteArray) (m : Nat) (hmz : m ≠ 0) (hmU : U m) (h8 : getW x 60 4 = 8) (w : World) (hs : s.ok) (hx : U x) (hn : NotFive n) (hof : ofR n = (n0, nm, 18, (m : Int), true)) :
    Calls Try.prog 34 #[.agg s.cells, .int .i64 n, .int .u64 (x : Int)] w fun e w' => e = .returned (.agg (s.set 19 (x &&& m)).cells) ∧ KpN w w' := by
  have b1 := hn.b1
  have b2 := hn.b2
  have b3 := hn.b3
  have b4 := hn.b4
  have b5 := hn.b5
  have ofc : ∀ w, Calls Try.prog 55 #[.int .i64 n] w fun e w' => e = .returned (.tuple #[.agg (rowC n0 nm 18 (m : Int)), .bool true]) ∧ KpN w w' := fun w => by
    have := of_c n w; rw [hof] at this; exact this
  have Ofc := Aside0.mk ofc
  clear ofc hof hn
  have hm0 : ((m : Int) == 0) = false := by rw [beq_eq_false_iff_ne]; omega
  have hm1 : U m := hmU
  clear hmz hmU
  have hb : (((getW x 60 4 : Nat) : Int) != 0) = true := by rw [h8]; rfl
  have hb8 : (((getW x 60 4 : Nat) : Int) != 8) = false := by rw [h8]; rfl
  clear h8
  go_enter Try.func34, Try.ntmps34
  go_wp2_with (first | ((with_reducible refine gate_dst (N := 3) rfl ?_); refine bx_ev rfl rfl (N := 3) rfl (s.cells) rfl ?_; intro g hg_g w1 hb_g hk_g; have Hg_g := Aside0.mk hg_g; clear hg_g) | ((with_reducible refine gate_dst (N := 6) rfl ?_); refine al_ev rfl rfl (N := 6) rfl _ (zeroR _) ?_; intro h hg_h w2 hb_h hk_h; have Hg_h := Aside0.mk hg_h; clear hg_h))
  have hgh : h ≠ g := by have := Hg_h.out; have := blk_lt hb_g; omega
  have hgw : w.heap.size ≤ g := by have := Hg_g.out; omega
  have hhw : w.heap.size ≤ h := by have := Hg_h.out; have := hk_g.size; omega
  have hI2 : St RT w2 g s := (St.mk hb_g).kp hk_h (fun h => h)
  have hR2 : St RT w2 h (VS.mk 0 fun _ => 0) := St.mk hb_h
  have K2 := hk_g.trans hk_h
  clear hb_g hb_h hk_g hk_h Hg_g Hg_h
  refine (Ofc.out _).mono ?_
  rintro e w3 ⟨rfl, hk3⟩
  go_wp2_with (first
    | (((with_reducible refine gate_dst (N := 8) rfl ?_); refine al_ev rfl rfl (N := 8) rfl _ (zeroRow _) ?_; intro r hg_r w4 hb_r hk_r; have Hg_r := Aside0.mk hg_r; clear hg_r); have hI4 : St RT w4 g s := (hI2.kp hk3 (fun h => h)).kp hk_r (fun h => h); have hR4 : St RT w4 h (VS.mk 0 fun _ => 0) := (hR2.kp hk3 (fun h => h)).kp hk_r (fun h => h); have hgr : g ≠ r := (by have := Hg_r.out; have := (hI2.kp hk3 (fun h => h)).lt; omega); have hhr : h ≠ r := (by have := Hg_r.out; have := (hR2.kp hk3 (fun h => h)).lt; omega); have hwr : w.heap.size ≤ r := (by have := Hg_r.out; have := (K2.trans hk3).size; omega); have K4 := (K2.trans hk3).trans hk_r)
    | ((with_reducible refine gate_store (t := 92) (p := 8) rfl ?_); refine st_ev rfl rfl rfl r (rowC n0 nm 18 (m : Int)) _ _ rfl rfl hb_r infoRow rfl (rowC_one _ _ _ _) ?_; intro w5 hs5 ks5; have hB5 : Bk w5 r (rowC n0 nm 18 (m : Int)) 92 := ⟨hs5⟩; have r2 : w5.cell? ⟨r, 2, none⟩ = some (.int .i64 18) := hB5.c 2; have r3 : w5.cell? ⟨r, 3, none⟩ = some (.int .u64 (m : Int)) := hB5.c 3; have hI5 := hI4.kp ks5 hgr; have hR5 := hR4.kp ks5 hhr; have K5 : KpN w w5 := K4.then ks5 (fun i hi (e : i = r) => by omega)))
  refine (getr_c x 60 4 _ hx).mono ?_
  rintro e w6 ⟨rfl, hk6⟩
  have hI6 := hI5.kp hk6 (fun h => h)
  have hR6 := hR5.kp hk6 (fun h => h)
  have hB6 := hB5.kp hk6 (fun h => h)
  have r2 : w6.cell? ⟨r, 2, none⟩ = some (.int .i64 18) := hB6.c 2
  have r3 : w6.cell? ⟨r, 3, none⟩ = some (.int .u64 (m : Int)) := hB6.c 3
  have K6 := K5.trans hk6
  go_wp2_with (fail)
  have cJ := hI6.c 19
  have fJ := hI6.f 19
  go_region_with (go_at_call 36; refine (and_r x m _ hx hm1).mono ?_; rintro e wy ⟨rfl, hky⟩; have hBy := hB6.drew.kp hky (fun h => h); have r2y : wy.cell? ⟨r, 2, none⟩ = some (.int .i64 18) := hBy.c 2; have hIy := hI6.drew.kp hky (fun h => h); have cy := hIy.c 19; have fy := hIy.f 19)
  all_goals
    have hRy := hR6.drew.kp hky (fun h => h)
    have Ky := K6.drew.trans hky
    go_wp2_with (first | ((with_reducible refine gate_dst (N := 126) rfl ?_); refine wpList_load_row rfl 34 _ rfl g rfl _ ((s.set 19 (x &&& m)).cells) (0, 0) _ ((hIy.set 19 _).blk) Try.underlying34 rfl infoR ?_) | ((with_reducible refine gate_store (t := 34) (p := 6) rfl ?_); refine st_ev rfl rfl rfl h ((s.set 19 (x &&& m)).cells) _ _ rfl rfl ((hRy.far hgh _).blk) infoR rfl (VS.one _) ?_; intro wz hs_wz ks_wz))
    refine bodyPost_ret (results_cell_row rfl _ _ h 34 ((s.set 19 (x &&& m)).cells) (0, 0) _ rfl (hs_wz) Try.underlying34 rfl infoR) rfl ?_
    exact ⟨rfl, (Ky.setCell (p := ⟨g, 19, none⟩) (.inr hgw) _).then ks_wz fun i hi (e : i = h) => by omega⟩
set_option maxHeartbeats 8000000 in
set_option maxRecDepth 100000 in
theorem rwrite_G (s : VS) (n : Int) (x : Nat) (n0 : Int) (nm : ByteArray) (j : Nat) (hj : j ≤ 21) (j6 : j ≠ 6) (j12 : j ≠ 12) (j18 : j ≠ 18) (m : Nat) (hmz : m ≠ 0) (hmU : U m) (w : World) (hs : s.ok) (hx : U x) (hn : NotFive n) (hof : ofR n = (n0, nm, (j : Int), (m : Int), true)) :
    Calls Try.prog 34 #[.agg s.cells, .int .i64 n, .int .u64 (x : Int)] w fun e w' => e = .returned (.agg (s.set (1 + j) (x &&& m)).cells) ∧ KpN w w' := by
  have b1 := hn.b1
  have b2 := hn.b2
  have b3 := hn.b3
  have b4 := hn.b4
  have b5 := hn.b5
  have ofc : ∀ w, Calls Try.prog 55 #[.int .i64 n] w fun e w' => e = .returned (.tuple #[.agg (rowC n0 nm (j : Int) (m : Int)), .bool true]) ∧ KpN w w' := fun w => by
    have := of_c n w; rw [hof] at this; exact this
  have Ofc := Aside0.mk ofc
  clear ofc hof hn
  have hm0 : ((m : Int) == 0) = false := by rw [beq_eq_false_iff_ne]; omega
  have hm1 : U m := hmU
  clear hmz hmU
  have q0 : decide ((j : Int) < 0) = false := decide_eq_false (by omega)
  have q1 : ((j : Int) == 6) = false := by rw [beq_eq_false_iff_ne]; omega
  have q2 : ((j : Int) == 12) = false := by rw [beq_eq_false_iff_ne]; omega
  have q3 : ((j : Int) == 18) = false := by rw [beq_eq_false_iff_ne]; omega
  have p0 : (0 : Int) ≤ (j : Int) := by omega
  have p1 : (j : Int) < 22 := by omega
  clear j6 j12 j18
  go_enter Try.func34, Try.ntmps34
  go_wp2_with (first | ((with_reducible refine gate_dst (N := 3) rfl ?_); refine bx_ev rfl rfl (N := 3) rfl (s.cells) rfl ?_; intro g hg_g w1 hb_g hk_g; have Hg_g := Aside0.mk hg_g; clear hg_g) | ((with_reducible refine gate_dst (N := 6) rfl ?_); refine al_ev rfl rfl (N := 6) rfl _ (zeroR _) ?_; intro h hg_h w2 hb_h hk_h; have Hg_h := Aside0.mk hg_h; clear hg_h))
  have hgh : h ≠ g := by have := Hg_h.out; have := blk_lt hb_g; omega
  have hgw : w.heap.size ≤ g := by have := Hg_g.out; omega
  have hhw : w.heap.size ≤ h := by have := Hg_h.out; have := hk_g.size; omega
  have hI2 : St RT w2 g s := (St.mk hb_g).kp hk_h (fun h => h)
  have hR2 : St RT w2 h (VS.mk 0 fun _ => 0) := St.mk hb_h
  have K2 := hk_g.trans hk_h
  clear hb_g hb_h hk_g hk_h Hg_g Hg_h
  refine (Ofc.out _).mono ?_
  rintro e w3 ⟨rfl, hk3⟩
  go_wp2_with (first
    | (((with_reducible refine gate_dst (N := 8) rfl ?_); refine al_ev rfl rfl (N := 8) rfl _ (zeroRow _) ?_; intro r hg_r w4 hb_r hk_r; have Hg_r := Aside0.mk hg_r; clear hg_r); have hI4 : St RT w4 g s := (hI2.kp hk3 (fun h => h)).kp hk_r (fun h => h); have hR4 : St RT w4 h (VS.mk 0 fun _ => 0) := (hR2.kp hk3 (fun h => h)).kp hk_r (fun h => h); have hgr : g ≠ r := (by have := Hg_r.out; have := (hI2.kp hk3 (fun h => h)).lt; omega); have hhr : h ≠ r := (by have := Hg_r.out; have := (hR2.kp hk3 (fun h => h)).lt; omega); have hwr : w.heap.size ≤ r := (by have := Hg_r.out; have := (K2.trans hk3).size; omega); have K4 := (K2.trans hk3).trans hk_r)
    | ((with_reducible refine gate_store (t := 92) (p := 8) rfl ?_); refine st_ev rfl rfl rfl r (rowC n0 nm (j : Int) (m : Int)) _ _ rfl rfl hb_r infoRow rfl (rowC_one _ _ _ _) ?_; intro w5 hs5 ks5; have hB5 : Bk w5 r (rowC n0 nm (j : Int) (m : Int)) 92 := ⟨hs5⟩; have r2 : w5.cell? ⟨r, 2, none⟩ = some (.int .i64 (j : Int)) := hB5.c 2; have r3 : w5.cell? ⟨r, 3, none⟩ = some (.int .u64 (m : Int)) := hB5.c 3; have hI5 := hI4.kp ks5 hgr; have hR5 := hR4.kp ks5 hhr; have K5 : KpN w w5 := K4.then ks5 (fun i hi (e : i = r) => by omega)))
  refine (getr_c x 60 4 _ hx).mono ?_
  rintro e w6 ⟨rfl, hk6⟩
  have hI6 := hI5.kp hk6 (fun h => h)
  have hR6 := hR5.kp hk6 (fun h => h)
  have hB6 := hB5.kp hk6 (fun h => h)
  have r2 : w6.cell? ⟨r, 2, none⟩ = some (.int .i64 (j : Int)) := hB6.c 2
  have r3 : w6.cell? ⟨r, 3, none⟩ = some (.int .u64 (m : Int)) := hB6.c 3
  have K6 := K5.trans hk6
  go_wp2_with (fail)
  have cJ := hI6.c (1 + j) (by omega) (by omega)
  have fJ := hI6.f (1 + j)
  go_region_with (go_at_call 36; refine (and_r x m _ hx hm1).mono ?_; rintro e wy ⟨rfl, hky⟩; have hBy := hB6.drew.kp hky (fun h => h); have r2y : wy.cell? ⟨r, 2, none⟩ = some (.int .i64 (j : Int)) := hBy.c 2; have hIy := hI6.drew.kp hky (fun h => h); have cy := hIy.c (1 + j) (by omega) (by omega); have fy := hIy.f (1 + j))
  all_goals
    have hRy := hR6.drew.kp hky (fun h => h)
    have Ky := K6.drew.trans hky
    go_wp2_with (first | ((with_reducible refine gate_dst (N := 126) rfl ?_); refine wpList_load_row rfl 34 _ rfl g rfl _ ((s.set (1 + j) (x &&& m)).cells) (0, 0) _ ((hIy.set (1 + j) _ (by omega) (by omega)).blk) Try.underlying34 rfl infoR ?_) | ((with_reducible refine gate_store (t := 34) (p := 6) rfl ?_); refine st_ev rfl rfl rfl h ((s.set (1 + j) (x &&& m)).cells) _ _ rfl rfl ((hRy.far hgh _).blk) infoR rfl (VS.one _) ?_; intro wz hs_wz ks_wz))
    refine bodyPost_ret (results_cell_row rfl _ _ h 34 ((s.set (1 + j) (x &&& m)).cells) (0, 0) _ rfl (hs_wz) Try.underlying34 rfl infoR) rfl ?_
    exact ⟨rfl, (Ky.setCell (p := ⟨g, (1 + j), none⟩) (.inr hgw) _).then ks_wz fun i hi (e : i = h) => by omega⟩
end Go.Proofs.Ytnknfepbekaobaa.H
/- The document's answer for the registers (vireoref08), walked by hand: any write. -/
namespace Go.Proofs.Ytnknfepbekaobaa.H
open Go.RowKit Go.Proofs.YtnknfepbekaobaaW.PrintWords Go.Proofs.YtnknfepbekaobaaW.PrintLast Go.Proofs.Ytnknfepbekaobaa.PAl Go.Proofs.Ytnknfepbekaobaa.Pure Go.Proofs.Ytnknfepbekaobaa.Vw
set_option linter.unusedVariables false
set_option linter.unusedSimpArgs false
theorem rows_fine : ∀ y ∈ rowsL, y.f2 ≤ 21 ∧ 0 ≤ y.f3 ∧ y.f3 < 18446744073709551616 := by decide +kernel
theorem ofR_fine (n : Int) (h : (ofR n).2.2.2.2 = true) : (ofR n).2.2.1 ≤ 21 ∧ 0 ≤ (ofR n).2.2.2.1 ∧ (ofR n).2.2.2.1 < 18446744073709551616 := by
  unfold ofR findR at *
  cases hf : rowsL.find? (fun x => decide (x.f0 = n)) with
  | none => rw [hf] at h; simp at h
  | some y => exact rows_fine y (List.mem_of_find?_eq_some hf)
theorem rwrite_c (s : VS) (n : Int) (x : Nat) (w : World) (hs : s.ok) (hx : U x) :
    Calls Try.prog 34 #[.agg s.cells, .int .i64 n, .int .u64 (x : Int)] w fun e w' => e = .returned (.agg (rwriteW s n x).cells) ∧ KpN w w' := by
  by_cases h1 : n = 768
  · subst h1
    by_cases hg : getW x 11 2 = 2
    · have : rwriteW s 768 x = s.set 1 (mixW (s.r 1) x 8257962) := by unfold rwriteW; rw [if_pos rfl, if_pos hg]
      rw [this]; exact rwrite_c1a s x w hs hx hg
    · have : rwriteW s 768 x = s.set 1 (mixW (s.r 1) x 8264106) := by unfold rwriteW; rw [if_pos rfl, if_neg hg]
      rw [this]; exact rwrite_c1b s x w hs hx hg
  by_cases h2 : n = 256
  · subst h2; exact rwrite_c2 s x w hs hx
  by_cases h3 : n = 836
  · subst h3; exact rwrite_c3 s x w hs hx
  by_cases h4 : n = 324
  · subst h4; exact rwrite_c4 s x w hs hx
  by_cases h5 : n = 260
  · subst h5; exact rwrite_c5 s x w hs hx
  have hn : NotFive n := ⟨beq_no h1, beq_no h2, beq_no h3, beq_no h4, beq_no h5⟩
  obtain ⟨n0, nm, a, m, ok, hof⟩ : ∃ n0 nm a m ok, ofR n = (n0, nm, a, m, ok) := ⟨_, _, _, _, _, rfl⟩
  have hfine := ofR_fine n
  have hgo : rwriteW s n x = if ok = false ∨ a < 0 ∨ m = 0 then s else if (a = 6 ∨ a = 12) ∧ getW x 1 1 = 1 then s else if a = 18 ∧ getW x 60 4 ≠ 0 ∧ getW x 60 4 ≠ 8 then s else s.set (a.toNat + 1) (x &&& m.toNat) := by
    unfold rwriteW
    rw [if_neg h1, if_neg h2, if_neg h3, if_neg h4, if_neg h5, hof]
  rw [hof] at hfine
  dsimp only at hfine
  rw [hgo]
  clear hgo
  cases ok with
  | false => rw [if_pos (.inl rfl)]; exact rwrite_A s n x n0 nm a m w hs hx hn hof
  | true =>
    obtain ⟨ha2, hm0, hm1⟩ := hfine rfl
    by_cases ha : a < 0
    · rw [if_pos (.inr (.inl ha))]; exact rwrite_B s n x n0 nm a m ha w hs hx hn hof
    by_cases hm : m = 0
    · rw [if_pos (.inr (.inr hm))]; subst hm; exact rwrite_C s n x n0 nm a ha w hs hx hn hof
    rw [if_neg (by rintro (h | h | h); cases h; exact ha h; exact hm h)]
    obtain ⟨M, rfl⟩ : ∃ M : Nat, m = M := ⟨m.toNat, by omega⟩
    have hM : M ≠ 0 := by omega
    have hU : U M := ⟨by omega⟩
    rw [Int.toNat_natCast]
    by_cases c6 : a = 6
    · subst c6
      by_cases hg : getW x 1 1 = 1
      · rw [if_pos ⟨.inl rfl, hg⟩]; exact rwrite_D6 s n x n0 nm M hM hU hg w hs hx hn hof
      · rw [if_neg (fun h => hg h.2), if_neg (fun h => absurd h.1 (by decide))]; exact rwrite_F6 s n x n0 nm M hM hU hg w hs hx hn hof
    by_cases c12 : a = 12
    · subst c12
      by_cases hg : getW x 1 1 = 1
      · rw [if_pos ⟨.inr rfl, hg⟩]; exact rwrite_D12 s n x n0 nm M hM hU hg w hs hx hn hof
      · rw [if_neg (fun h => hg h.2), if_neg (fun h => absurd h.1 (by decide))]; exact rwrite_F12 s n x n0 nm M hM hU hg w hs hx hn hof
    rw [if_neg (fun h => by rcases h.1 with h | h; exact c6 h; exact c12 h)]
    by_cases c18 : a = 18
    · subst c18
      by_cases h0 : getW x 60 4 = 0
      · rw [if_neg (fun h => h.2.1 h0)]; exact rwrite_F18a s n x n0 nm M hM hU h0 w hs hx hn hof
      by_cases h8 : getW x 60 4 = 8
      · rw [if_neg (fun h => h.2.2 h8)]; exact rwrite_F18b s n x n0 nm M hM hU h8 w hs hx hn hof
      · rw [if_pos ⟨rfl, h0, h8⟩]; exact rwrite_E s n x n0 nm M hM hU h0 h8 w hs hx hn hof
    · rw [if_neg (fun h => c18 h.1)]
      obtain ⟨j, rfl⟩ : ∃ j : Nat, a = j := ⟨a.toNat, by omega⟩
      rw [Int.toNat_natCast, Nat.add_comm j 1]
      exact rwrite_G s n x n0 nm j (by omega) (by omega) (by omega) (by omega) M hM hU w hs hx hn hof
theorem rwriteW_ok {s : VS} (h : s.ok) (n : Int) {x : Nat} (hx : U x) : (rwriteW s n x).ok := by
  unfold rwriteW
  repeat' split
  all_goals first | exact h | exact VS.set_ok h _ (mixW_ok (h _) hx) | exact VS.set_ok h _ hx.and
end Go.Proofs.Ytnknfepbekaobaa.H
