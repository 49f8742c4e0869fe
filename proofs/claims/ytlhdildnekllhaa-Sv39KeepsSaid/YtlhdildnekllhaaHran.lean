/- A range over a map from numbers to blocks: its begin, its step. -/
import Derived.Test.YtlhdildnekllhaaTb
import Derived.Maps.RangeWalk
import Derived.Maps.Ext
namespace Go.Proofs.Ytlhdildnekllhaa.H
open Go.RowKit Go.Proofs.YtlhdildnekllhaaW.PrintWords Go.Proofs.YtlhdildnekllhaaW.PrintLast Go.Proofs.Ytlhdildnekllhaa.PAl Go.Proofs.Ytlhdildnekllhaa.Pure Go.Proofs.Ytlhdildnekllhaa.Vw
set_option linter.unusedVariables false
set_option linter.unusedSimpArgs false
open Go.Maps (Keyed)
/-- Block r goes over the map of block B; left: what is still to come, cnt: how many. -/
structure PRan (P : Program) (k : TypeId) (w : World) (B r n : Nat) (pg : Nat → Option Nat) (left : Lit → Bool) (cnt : Nat) : Prop where
  ex : ∃ D : DataW Unit, w.ranges P k ptrR B r n D left cnt ∧ Go.Maps.IsMap D ∧ ∀ (i : Nat) (zd : DataW Unit), i < 18446744073709551616 → D.atKey (.int .u64 (i : Int)) zd = match pg i with | none => zd | some b => .lit (.int .u64 (b : Int))
section
variable {P : Program} {k : TypeId} {w : World} {B r n : Nat} {pg : Nat → Option Nat} {left : Lit → Bool} {cnt : Nat}
theorem PRan.pmap (h : PRan P k w B r n pg left cnt) : PMap P k w B n pg := by
  obtain ⟨D, h, h1, h2⟩ := h.ex; exact ⟨D, h.owns, h1, h2⟩
theorem PRan.of_heap {w' : World} (h : PRan P k w B r n pg left cnt) (e1 : w'.heap[B]? = w.heap[B]?) (e2 : w'.heap[r]? = w.heap[r]?) : PRan P k w' B r n pg left cnt := by
  obtain ⟨D, ⟨es, clock, since, seen, c0, hb, F, hs, hD, hr, rest⟩, h1, h2⟩ := h.ex
  exact ⟨D, ⟨es, clock, since, seen, c0, e1.trans hb, F, hs, hD, e2.trans hr, rest⟩, h1, h2⟩
theorem PRan.lt (h : PRan P k w B r n pg left cnt) : r < w.heap.size := by obtain ⟨D, h, _⟩ := h.ex; exact h.lt
theorem PRan.kp {w' : World} {S : Nat → Prop} (h : PRan P k w B r n pg left cnt) (q : Kp w w' S) (hB : ¬ S B) (hr : ¬ S r) : PRan P k w' B r n pg left cnt :=
  h.of_heap (q.block B h.pmap.lt hB) (q.block r h.lt hr)
theorem PRan.left_eq (h : PRan P k w B r n pg left cnt) : w.rangeLeft B r = cnt := by obtain ⟨D, h, _⟩ := h.ex; exact h.left_eq
end
section
variable {P : Program} {ops : Array Oper} {rest : List Oper} {o : Oper} {a : Act} {Q : Exit → Act → World → Prop} {k : TypeId}
theorem rg_ev {w : World} (hgd : o.guard = none) (m : Operand) (t e : TypeId) (ho : o.op = .range t m) (B n : Nat) (pg : Nat → Option Nat) (hm : a.eval m = .map (some B)) (h : PMap P k w B n pg) (K : Keyed P k) (ht : P.underlying t = some (.map k e))
    (hK : ∀ r, r = w.heap.size → ∀ w1 left cnt, PRan P k w1 B r n pg left cnt → KpN w w1 → cnt ≤ n → (∀ i, i < 18446744073709551616 → pg i ≠ none → left (.int .u64 (i : Int)) = true) → wpList P ops Q rest (a.put o.dst (.pointer (some ⟨r, 0, none⟩))) w1) : wpList P ops Q (o :: rest) a w := by
  obtain ⟨D, hown, h1, h2⟩ := h.ex
  refine wpList_range_own w hgd m t ho k e K ht ptrR B n D hm hown fun w' hr hg hs => ?_
  refine hK _ rfl w' _ _ ⟨D, hr, h1, h2⟩ ⟨hg.os, hg.tape, hg.output, hg.size, fun j hj _ => hg.block j hj (by simp)⟩ ?_ ?_
  · obtain ⟨es, clock, hb, F, hs, rfl⟩ := hown
    simpa [Maps.size, length_sorted] using hs
  · intro i hi hp
    cases hq : pg i with
    | none => exact absurd hq hp
    | some b => exact Go.Maps.has_true_of_atKey (y := .lit (.int .u64 (b : Int))) fun zd => by rw [h2 i zd hi, hq]
theorem nx_ev {w : World} (hgd : o.guard = none) (it : Operand) (ho : o.op = .next it false) (K : Keyed P k) (hk : P.underlying k = some (.int .u64)) (B r n : Nat) (pg : Nat → Option Nat) (left : Lit → Bool) (cnt : Nat)
    (hit : a.eval it = .pointer (some ⟨r, 0, none⟩)) (h : PRan P k w B r n pg left cnt)
    (hDone : cnt = 0 → (∀ kl, left kl = false) → wpList P ops Q rest (a.put o.dst (.tuple #[.bool false])) w)
    (hMore : ∀ (i b : Nat) (w1 : World) (cnt1 : Nat), i < 18446744073709551616 → pg i = some b → left (.int .u64 (i : Int)) = true → PRan P k w1 B r n pg (fun z => left z && !z.sameKey (.int .u64 (i : Int))) cnt1 → cnt1 < cnt → Kp w w1 (fun j => j = r) → w1.heap.size = w.heap.size →
      (Instr.entry (.pointer (some ⟨r, 0, none⟩))).run P w1 = .ok (.tuple #[.int .u64 (i : Int), .pointer (some ⟨b, 0, none⟩)]) w1 → wpList P ops Q rest (a.put o.dst (.tuple #[.bool true, .int .u64 (i : Int), .pointer (some ⟨b, 0, none⟩)])) w1) : wpList P ops Q (o :: rest) a w := by
  obtain ⟨D, hr, h1, h2⟩ := h.ex
  refine wpList_next_ranges w hgd it ho k K ptrR (Value.int .u64) (fun b : Nat => Value.pointer (some ⟨b, 0, none⟩)) (fun key kl hkey => by obtain ⟨x, rfl, _⟩ := Maps.keyOf_int_inv hk hkey; exact ⟨x, rfl⟩) (fun v y hv => by obtain ⟨b, rfl, _⟩ := ptrR_inv hv; exact ⟨b, rfl⟩) B r n D left cnt hit hr hDone ?_
  intro x c kl y w' cnt' hkey hlk hv hat hrg hlt hgr hsz hen
  obtain ⟨x', ex, rfl, hwx⟩ := Maps.keyOf_int_inv hk hkey
  cases ex
  obtain ⟨i, rfl, hi⟩ := u64_of_wf hwx
  obtain ⟨b, hb, rfl⟩ := ptrR_inv hv
  cases hb
  have hpg : pg i = some c := by
    have q1 := hat .nil
    rw [h2 i .nil hi] at q1
    cases hp : pg i with
    | none => rw [hp] at q1; cases q1
    | some b' =>
      rw [hp] at q1
      have : (b' : Int) = (c : Int) := by injection q1 with q1; injection q1
      have hbb : b' = c := by omega
      rw [hbb]
  exact hMore i c w' cnt' hi hpg hlk ⟨D, hrg, h1, h2⟩ hlt ⟨hgr.os, hgr.tape, hgr.output, hgr.size, fun j hj hne => hgr.block j hj (fun q => hne (by injection q))⟩ hsz hen
end
theorem run_forIn_list8 {P : Program} (w : World) (body : Nat → Option Bool × Unit → Sem (ForInStep (Option Bool × Unit))) :
    ∀ (L : List Nat), (∀ i ∈ L, (body i (none, ())).run P w = .ok (.yield (none, ())) w) → (forIn L ((none, ()) : Option Bool × Unit) body).run P w = .ok (none, ()) w
  | [], _ => by simp
  | i :: L, h => by
    rw [List.forIn_cons, Sem.run_bind, h i (by simp), Result.andThen_ok]
    exact run_forIn_list8 w body L (fun j hj => h j (by simp [hj]))
/-- A row of bytes is like itself. -/
theorem eqSelf8 {P : Program} {T e : TypeId} {n : Nat} (w : World) (d : Nat) (hu : P.underlying T = some (.array n e)) (he : P.underlying e = some (.int .u8)) (hs : (P.info? e).map (·.size) = some 1) (xs : Array Value) (f : Nat → Int)
    (hx : ∀ i, i < n → xs[i]? = some (.int .u8 (f i))) : (Op.equalIn (d + 2) T (.agg xs) (.agg xs)).run P w = .ok true w := by
  rw [Op.equalIn]
  have hso : (sizeOf e).run P w = .ok 1 w := by
    cases hq : P.info? e with
    | none => simp [hq] at hs
    | some i => simp [hq] at hs; simp [sizeOf, typeInfo, hq, hs]
  have hag : (isAgg e).run P w = .ok false w := by
    unfold isAgg; rw [Sem.run_bind, run_underlying he w]; rfl
  simp only [Sem.run_bind, run_underlying hu w, Result.andThen_ok, hso]
  rw [Std.Legacy.Range.forIn_eq_forIn_range']
  rw [run_forIn_list8 w _]
  · rw [Result.andThen_ok]; rfl
  · intro i hi
    have hin : i < n := by
      have := hi
      simp only [Std.Legacy.Range.size, Nat.sub_zero, Nat.add_sub_cancel, Nat.div_one] at this
      simpa using this
    have p1 : (part e xs (i * 1)).run P w = .ok (.int .u8 (f i)) w := by
      unfold part; rw [Sem.run_bind, hag, Result.andThen_ok, Nat.mul_one, hx i hin]; rfl
    have p3 : (Op.equalIn (d + 1) e (.int .u8 (f i)) (.int .u8 (f i))).run P w = .ok true w := by
      rw [Op.equalIn, Sem.run_bind, run_underlying he w, Result.andThen_ok]
      show (Result.ok (f i == f i) w : Result Bool) = _
      rw [beq_self_eq_true]
    simp only [Sem.run_bind, p1, p3, Result.andThen_ok]
    rfl
end Go.Proofs.Ytlhdildnekllhaa.H
