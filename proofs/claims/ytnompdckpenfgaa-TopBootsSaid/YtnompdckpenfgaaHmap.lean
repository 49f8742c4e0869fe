/- A map from numbers to blocks: what a look-up finds, what a store leaves. -/
import Derived.Test.YtnompdckpenfgaaHsg
import Derived.Test.YtnompdckpenfgaaS0
import Derived.Maps.Own
import Derived.Maps.OwnOps
import Derived.Maps.Views
namespace Go.Proofs.Ytnompdckpenfgaa.H
open Go.RowKit Go.Proofs.YtnompdckpenfgaaW.PrintWords Go.Proofs.YtnompdckpenfgaaW.PrintLast Go.Proofs.Ytnompdckpenfgaa.PAl Go.Proofs.Ytnompdckpenfgaa.Pure Go.Proofs.Ytnompdckpenfgaa.Vw
set_option linter.unusedVariables false
set_option linter.unusedSimpArgs false
open Go.Maps (Keyed)
open Go.ChangeMaps Go.MapKept
open Go.WideElems (Fit rd rg pl)
/-- A pointer to the head of a block reads as the block's number. -/
def ptrR (v : Value) : Option (DataW Unit × List MemPlace) :=
  match v with
  | .pointer (some ⟨b, 0, none⟩) => some (.lit (.int .u64 (b : Int)), [])
  | _ => none
theorem ptrR_inv {v : Value} {y : DataW Unit × List MemPlace} (h : ptrR v = some y) : ∃ b : Nat, v = .pointer (some ⟨b, 0, none⟩) ∧ y = (.lit (.int .u64 (b : Int)), []) := by
  unfold ptrR at h
  split at h
  · cases h; exact ⟨_, rfl, rfl⟩
  · cases h
/-- Block B is a map of at most n entries; pg: what stands at each number. -/
structure PMap (P : Program) (k : TypeId) (w : World) (B n : Nat) (pg : Nat → Option Nat) : Prop where
  ex : ∃ D : DataW Unit, w.ownsMap P k ptrR B n D ∧ Go.Maps.IsMap D ∧ ∀ (i : Nat) (zd : DataW Unit), i < 18446744073709551616 → D.atKey (.int .u64 (i : Int)) zd = match pg i with | none => zd | some b => .lit (.int .u64 (b : Int))
theorem wf64 {i : Nat} (h : i < 18446744073709551616) : (Lit.int .u64 (i : Int)).wf = true := WalkArith.wf_u64 (by omega)
section
variable {P : Program} {k : TypeId} {w : World} {B n : Nat} {pg : Nat → Option Nat}
theorem PMap.made (w : World) : PMap P k (w.alloc (.map #[] 0)) w.heap.size 0 (fun _ => none) :=
  ⟨.map [], World.ownsMap_made _ _ _ _, Go.Maps.isMap_empty, fun _ _ _ => rfl⟩
theorem PMap.lt (h : PMap P k w B n pg) : B < w.heap.size := by obtain ⟨D, h, _⟩ := h.ex; exact h.lt
theorem PMap.mono (h : PMap P k w B n pg) {n' : Nat} (hn : n ≤ n') : PMap P k w B n' pg := by
  obtain ⟨D, h, h1, h2⟩ := h.ex; exact ⟨D, h.mono hn, h1, h2⟩
theorem PMap.of_heap {w' : World} (h : PMap P k w B n pg) (e : w'.heap[B]? = w.heap[B]?) : PMap P k w' B n pg := by
  obtain ⟨D, ⟨es, clock, hb, F, hs, hD⟩, h1, h2⟩ := h.ex
  exact ⟨D, ⟨es, clock, e.trans hb, F, hs, hD⟩, h1, h2⟩
theorem PMap.kp {w' : World} {S : Nat → Prop} (h : PMap P k w B n pg) (q : Kp w w' S) (hS : ¬ S B) : PMap P k w' B n pg := h.of_heap (q.block B h.lt hS)
theorem PMap.drewN (h : PMap P k w B n pg) (m : Nat) : PMap P k (w.drewN m) B n pg := h.of_heap rfl
theorem PMap.drew (h : PMap P k w B n pg) : PMap P k w.drew B n pg := h.of_heap rfl
/-- What a look-up finds. -/
theorem PMap.look {t e : TypeId} (h : PMap P k w B n pg) (K : Keyed P k) (hk : P.underlying k = some (.int .u64)) (ht : P.underlying t = some (.map k e)) (hz : (zeroValue e).run P w = .ok (.pointer none) w) {i : Nat} (hi : i < 18446744073709551616) :
    (Instr.lookup t (.map (some B)) (.int .u64 (i : Int)) true).run P w = .ok (match pg i with | none => .tuple #[.pointer none, .bool false] | some b => .tuple #[.pointer (some ⟨b, 0, none⟩), .bool true]) w := by
  obtain ⟨D, ⟨es, clock, hb, F, hs, rfl⟩, h1, h2⟩ := h.ex
  have hkey : keyOf P k (.int .u64 (i : Int)) = some (.int .u64 (i : Int)) := Go.Maps.keyOf_int_mk hk (wf64 hi)
  rcases Go.Maps.fit_look true K ht hz hb F hkey with ⟨hrun, _, hat⟩ | ⟨e0, y, _, _, hrun, hR, hat, _⟩
  · rw [hrun]
    cases hp : pg i with
    | none => rfl
    | some b =>
      have q1 := hat .nil
      rw [h2 i .nil hi, hp] at q1
      cases q1
  · rw [hrun]
    obtain ⟨b, hv, hy⟩ := ptrR_inv hR
    cases hp : pg i with
    | none =>
      have q1 := hat .nil
      rw [h2 i .nil hi, hp, hy] at q1
      cases q1
    | some b' =>
      have q1 := hat .nil
      rw [h2 i .nil hi, hp, hy] at q1
      have : (b' : Int) = (b : Int) := by injection q1 with q1; injection q1
      have hbb : b' = b := by omega
      subst hbb
      rw [hv]; rfl
/-- What a store leaves. -/
theorem PMap.store {t e : TypeId} (h : PMap P k w B n pg) (K : Keyed P k) (hk : P.underlying k = some (.int .u64)) (ht : P.underlying t = some (.map k e)) (hn : n < maxLen) {i : Nat} (hi : i < 18446744073709551616) (b : Nat) :
    ∃ w', (Instr.mapUpdate t (.map (some B)) (.int .u64 (i : Int)) (.pointer (some ⟨b, 0, none⟩))).run P w = .ok () w' ∧ PMap P k w' B (n + 1) (fun j => if j = i then some b else pg j) ∧ Kp w w' (fun j => j = B) := by
  obtain ⟨D, h, h1, h2⟩ := h.ex
  have hkey : keyOf P k (.int .u64 (i : Int)) = some (.int .u64 (i : Int)) := Go.Maps.keyOf_int_mk hk (wf64 hi)
  obtain ⟨w', hrun, hown, hg⟩ := h.update K ht hn hkey (val := .pointer (some ⟨b, 0, none⟩)) (d := .lit (.int .u64 (b : Int))) (ps := []) rfl
  refine ⟨w', hrun, ⟨_, hown, h1.put _ _, fun j zd hj => ?_⟩, ⟨hg.os, hg.tape, hg.output, hg.size, fun j hj hne => hg.block j hj (fun q => hne (by injection q))⟩⟩
  by_cases hji : j = i
  · subst hji
    rw [Go.Maps.atKey_put_same h1 (K.key hkey)]
    simp
  · rw [Go.Maps.atKey_put_other (by intro q; injection q with q1 q2; omega), h2 j zd hj]
    simp [hji]
end
section
variable {P : Program} {ops : Array Oper} {rest : List Oper} {o : Oper} {a : Act} {Q : Exit → Act → World → Prop}
theorem lk_ev {w : World} (hgd : o.guard = none) (m x : Operand) (t k e : TypeId) (ho : o.op = .lookup t m x true) (B n : Nat) (pg : Nat → Option Nat) (i : Nat) (hm : a.eval m = .map (some B)) (hx : a.eval x = .int .u64 (i : Int))
    (h : PMap P k w B n pg) (K : Keyed P k) (hk : P.underlying k = some (.int .u64)) (ht : P.underlying t = some (.map k e)) (hz : (zeroValue e).run P w = .ok (.pointer none) w) (hi : i < 18446744073709551616) (v : Value)
    (hv : v = match pg i with | none => .tuple #[.pointer none, .bool false] | some b => .tuple #[.pointer (some ⟨b, 0, none⟩), .bool true])
    (hK : wpList P ops Q rest (a.put o.dst v) w) : wpList P ops Q (o :: rest) a w := by
  refine wpList_plain hgd fun K' hK' => ?_
  unfold Oper.wp execOp
  simp only [ho, hm, hx, Sem.run_bind, h.look K hk ht hz hi, Result.andThen_ok, ← hv]
  exact hK' _ _ hK
theorem up_ev {w : World} (hgd : o.guard = none) (m x y : Operand) (t k e : TypeId) (ho : o.op = .mapUpdate t m x y) (hd : o.dst = none) (B n : Nat) (pg : Nat → Option Nat) (i b : Nat) (hm : a.eval m = .map (some B)) (hx : a.eval x = .int .u64 (i : Int)) (hy : a.eval y = .pointer (some ⟨b, 0, none⟩))
    (h : PMap P k w B n pg) (K : Keyed P k) (hk : P.underlying k = some (.int .u64)) (ht : P.underlying t = some (.map k e)) (hn : n < maxLen) (hi : i < 18446744073709551616)
    (hK : ∀ w1, PMap P k w1 B (n + 1) (fun j => if j = i then some b else pg j) → Kp w w1 (fun j => j = B) → wpList P ops Q rest a w1) : wpList P ops Q (o :: rest) a w := by
  refine wpList_plain hgd fun K' hK' => ?_
  obtain ⟨w', hrun, h1, h2⟩ := h.store K hk ht hn hi b
  unfold Oper.wp execOp
  have := hK' _ _ (hK w' h1 h2)
  rw [show a = a.put o.dst undef from by rw [hd]; rfl] at this
  simp only [ho, hm, hx, hy, Sem.run_bind, hrun, Result.andThen_ok]
  exact this
end
end Go.Proofs.Ytnompdckpenfgaa.H
