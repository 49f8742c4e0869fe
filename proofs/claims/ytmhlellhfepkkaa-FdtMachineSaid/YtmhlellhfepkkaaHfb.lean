/- The builder of a tree's bytes (fdt): what its block, its two rows and its map of names hold. -/
import Derived.Test.YtmhlellhfepkkaaPAlx2
import Derived.Maps.Own
import Derived.Maps.OwnOps
import Derived.Maps.Views
import Derived.Deep.RegionHeld3
import Derived.Deep.DrawnRows
import Derived.Deep.RegionLaw
namespace Go.Proofs.Ytmhlellhfepkkaa.B
open Go.RowKit Go.Proofs.YtmhlellhfepkkaaW.PrintWords Go.Proofs.YtmhlellhfepkkaaW.PrintLast Go.Proofs.YtmhlellhfepkkaaW.PrintMore Go.Proofs.Ytmhlellhfepkkaa.PAl
open Go.Maps (Keyed)
open Go.ChangeMaps Go.MapKept
set_option linter.unusedVariables false
set_option linter.unusedSimpArgs false
/-! the names, as a list -/
def textsOf : List ByteArray → List Int
  | [] => []
  | s :: l => bytesOf s ++ 0 :: textsOf l
def posOf : List ByteArray → ByteArray → Option Int
  | [], _ => none
  | s :: l, t => if s = t then some 0 else (posOf l t).map (fun x => x + s.size + 1)
theorem textsOf_snoc (s : ByteArray) : ∀ l, textsOf (l ++ [s]) = textsOf l ++ (bytesOf s ++ [0])
  | [] => rfl
  | a :: l => by simp [textsOf, textsOf_snoc s l]
theorem posOf_snoc (s t : ByteArray) : ∀ l, posOf (l ++ [s]) t = match posOf l t with | some x => some x | none => if s = t then some ((textsOf l).length : Int) else none
  | [] => by simp only [List.nil_append, posOf, textsOf]; split <;> simp
  | a :: l => by
    simp only [List.cons_append, posOf, posOf_snoc s t l]
    by_cases h : a = t
    · simp [h]
    · simp only [if_neg h]
      cases posOf l t with
      | some x => rfl
      | none =>
        by_cases h2 : s = t
        · simp only [h2, if_true, Option.map_some, Option.map_none, textsOf, List.length_append, List.length_cons, bytesOf_length]
          congr 1
          have : (bytesOf a).length = a.size := bytesOf_length a
          push_cast
          omega
        · simp [h2]
theorem posOf_new {l : List ByteArray} {s : ByteArray} (h : posOf l s = none) : posOf (l ++ [s]) = fun t => if t = s then some ((textsOf l).length : Int) else posOf l t := by
  funext t
  rw [posOf_snoc]
  by_cases e : t = s
  · subst e; simp [h]
  · rw [if_neg e]
    cases posOf l t with
    | some x => rfl
    | none => rw [if_neg (fun q => e q.symm)]
/-! a map from names to numbers -/
def u32R (v : Value) : Option (DataW Unit × List MemPlace) :=
  match v with
  | .int .u32 x => some (.lit (.int .u32 x), [])
  | _ => none
theorem u32R_inv {v : Value} {y : DataW Unit × List MemPlace} (h : u32R v = some y) : ∃ b : Int, v = .int .u32 b ∧ y = (.lit (.int .u32 b), []) := by
  unfold u32R at h
  split at h
  · cases h; exact ⟨_, rfl, rfl⟩
  · cases h
/-- Block B is a map of at most n entries; pg: what stands at each name. -/
structure SMap (P : Program) (k : TypeId) (w : World) (B n : Nat) (pg : ByteArray → Option Int) : Prop where
  ex : ∃ D : DataW Unit, w.ownsMap P k u32R B n D ∧ Go.Maps.IsMap D ∧ ∀ (s : ByteArray) (zd : DataW Unit), s.size ≤ maxLen → D.atKey (.string s.data.toList) zd = match pg s with | none => zd | some b => .lit (.int .u32 b)
section
variable {P : Program} {k : TypeId} {w : World} {B n : Nat} {pg : ByteArray → Option Int}
theorem SMap.made (w : World) : SMap P k (w.alloc (.map #[] 0)) w.heap.size 0 (fun _ => none) :=
  ⟨.map [], World.ownsMap_made _ _ _ _, Go.Maps.isMap_empty, fun _ _ _ => rfl⟩
theorem SMap.lt (h : SMap P k w B n pg) : B < w.heap.size := by obtain ⟨D, h, _⟩ := h.ex; exact h.lt
theorem SMap.of_heap {w' : World} (h : SMap P k w B n pg) (e : w'.heap[B]? = w.heap[B]?) : SMap P k w' B n pg := by
  obtain ⟨D, ⟨es, clock, hb, F, hs, hD⟩, h1, h2⟩ := h.ex
  exact ⟨D, ⟨es, clock, e.trans hb, F, hs, hD⟩, h1, h2⟩
theorem SMap.blk (h : SMap P k w B n pg) : ∃ es clock, w.heap[B]? = some (.map es clock) := by
  obtain ⟨D, ⟨es, clock, hb, F, hs, hD⟩, h1, h2⟩ := h.ex
  exact ⟨es, clock, hb⟩
theorem SMap.look {t e : TypeId} (h : SMap P k w B n pg) (K : Keyed P k) (hk : P.underlying k = some .string) (ht : P.underlying t = some (.map k e)) (hz : (zeroValue e).run P w = .ok (.int .u32 0) w) {s : ByteArray} (hs : s.size ≤ maxLen) :
    (Instr.lookup t (.map (some B)) (.string s) true).run P w = .ok (match pg s with | none => .tuple #[.int .u32 0, .bool false] | some b => .tuple #[.int .u32 b, .bool true]) w := by
  obtain ⟨D, ⟨es, clock, hb, F, hn, rfl⟩, h1, h2⟩ := h.ex
  have hkey : keyOf P k (.string s) = some (.string s.data.toList) := WideMaps.keyOf_string_mk hk hs
  rcases Go.Maps.fit_look true K ht hz hb F hkey with ⟨hrun, _, hat⟩ | ⟨e0, y, _, _, hrun, hR, hat, _⟩
  · rw [hrun]
    cases hp : pg s with
    | none => rfl
    | some b =>
      have q1 := hat .nil
      rw [h2 s .nil hs, hp] at q1
      cases q1
  · rw [hrun]
    obtain ⟨b, hv, hy⟩ := u32R_inv hR
    cases hp : pg s with
    | none =>
      have q1 := hat .nil
      rw [h2 s .nil hs, hp, hy] at q1
      cases q1
    | some b' =>
      have q1 := hat .nil
      rw [h2 s .nil hs, hp, hy] at q1
      have : b' = b := by injection q1 with q1; injection q1
      subst this
      rw [hv]; rfl
theorem SMap.store {t e : TypeId} (h : SMap P k w B n pg) (K : Keyed P k) (hk : P.underlying k = some .string) (ht : P.underlying t = some (.map k e)) (hn : n < maxLen) {s : ByteArray} (hs : s.size ≤ maxLen) (b : Int) :
    ∃ w', (Instr.mapUpdate t (.map (some B)) (.string s) (.int .u32 b)).run P w = .ok () w' ∧ SMap P k w' B (n + 1) (fun j => if j = s then some b else pg j) ∧ w.grownBy w' (some B) := by
  obtain ⟨D, h, h1, h2⟩ := h.ex
  have hkey : keyOf P k (.string s) = some (.string s.data.toList) := WideMaps.keyOf_string_mk hk hs
  obtain ⟨w', hrun, hown, hg⟩ := h.update K ht hn hkey (val := .int .u32 b) (d := .lit (.int .u32 b)) (ps := []) rfl
  refine ⟨w', hrun, ⟨_, hown, h1.put _ _, fun j zd hj => ?_⟩, hg⟩
  by_cases hji : j = s
  · subst hji
    rw [Go.Maps.atKey_put_same h1 (K.key hkey)]
    simp
  · rw [Go.Maps.atKey_put_other (by intro q; injection q with q1; exact hji (by cases j; cases s; simp_all [ByteArray.ext_iff, Array.ext_iff, Array.toList_inj])), h2 j zd hj]
    simp [hji]
end
section
variable {P : Program} {ops : Array Oper} {rest : List Oper} {o : Oper} {a : Act} {Q : Exit → Act → World → Prop}
theorem slk_ev {w : World} (hgd : o.guard = none) (m x : Operand) (t k e : TypeId) (ho : o.op = .lookup t m x true) (B n : Nat) (pg : ByteArray → Option Int) (s : ByteArray) (hm : a.eval m = .map (some B)) (hx : a.eval x = .string s)
    (h : SMap P k w B n pg) (K : Keyed P k) (hk : P.underlying k = some .string) (ht : P.underlying t = some (.map k e)) (hz : (zeroValue e).run P w = .ok (.int .u32 0) w) (hs : s.size ≤ maxLen) (v : Value)
    (hv : v = match pg s with | none => .tuple #[.int .u32 0, .bool false] | some b => .tuple #[.int .u32 b, .bool true])
    (hK : wpList P ops Q rest (a.put o.dst v) w) : wpList P ops Q (o :: rest) a w := by
  refine wpList_plain hgd fun K' hK' => ?_
  unfold Oper.wp execOp
  simp only [ho, hm, hx, Sem.run_bind, h.look K hk ht hz hs, Result.andThen_ok, ← hv]
  exact hK' _ _ hK
theorem sup_ev {w : World} (hgd : o.guard = none) (m x y : Operand) (t k e : TypeId) (ho : o.op = .mapUpdate t m x y) (hd : o.dst = none) (B n : Nat) (pg : ByteArray → Option Int) (s : ByteArray) (b : Int) (hm : a.eval m = .map (some B)) (hx : a.eval x = .string s) (hy : a.eval y = .int .u32 b)
    (h : SMap P k w B n pg) (K : Keyed P k) (hk : P.underlying k = some .string) (ht : P.underlying t = some (.map k e)) (hn : n < maxLen) (hs : s.size ≤ maxLen)
    (hK : ∀ w1, SMap P k w1 B (n + 1) (fun j => if j = s then some b else pg j) → w.grownBy w1 (some B) → wpList P ops Q rest a w1) : wpList P ops Q (o :: rest) a w := by
  refine wpList_plain hgd fun K' hK' => ?_
  obtain ⟨w', hrun, h1, h2⟩ := h.store K hk ht hn hs b
  unfold Oper.wp execOp
  have := hK' _ _ (hK w' h1 h2)
  rw [show a = a.put o.dst undef from by rw [hd]; rfl] at this
  simp only [ho, hm, hx, hy, Sem.run_bind, hrun, Result.andThen_ok]
  exact this
end
/-! the builder -/
abbrev U8 : Kd Int := Kd.int .u8
theorem U8_move {w w1 : World} {base : Nat} {ok : Nat → Prop} {v : Value} {xs : List Int} (h : U8.R 5 w base ok v xs) (hm : ∀ k, v.ownBlock = some k → k < w.heap.size → w1.heap[k]? = w.heap[k]?) : U8.R 5 w1 base ok v xs := by
  have h2 := Kd.R_step (Kd.R_tight (d := U8) rfl h) (w1 := w1) (fun k hk hl => hm k hk.symm hl)
  exact Kd.R_reok (d := U8) rfl h2 h.1
/-- Block g is a builder: its tree's bytes tr, its names all; every block that it holds is ok. -/
structure Bs (w : World) (base : Nat) (ok : Nat → Prop) (g : Nat) (tr : List Int) (all : List ByteArray) : Prop where
  ex : ∃ (u v : Value) (B : Nat), base ≤ g ∧ ok g ∧ w.heap[g]? = some (.cells #[u, v, .map (some B)] 71 (0, 0)) ∧ U8.R 5 w base ok u tr ∧ U8.R 5 w base ok v (textsOf all) ∧ (∀ k, u.ownBlock = some k → v.ownBlock ≠ some k) ∧
    SMap Try.prog 9 w B all.length (posOf all) ∧ base ≤ B ∧ ok B
section
variable {w w1 : World} {base g : Nat} {ok ok' : Nat → Prop} {tr : List Int} {all : List ByteArray}
theorem Bs.move (h : Bs w base ok g tr all) (hm : ∀ k, ok k → k < w.heap.size → w1.heap[k]? = w.heap[k]?) : Bs w1 base ok g tr all := by
  obtain ⟨u, v, B, h1, h2, h3, h4, h5, h6, h7, h8, h9⟩ := h.ex
  exact ⟨u, v, B, h1, h2, (hm g h2 (blk_lt h3)).trans h3, U8_move h4 (fun k hk hl => hm k (h4.1 k hk) hl), U8_move h5 (fun k hk hl => hm k (h5.1 k hk) hl), h6, h7.of_heap (hm B h9 h7.lt), h8, h9⟩
theorem Bs.mono (h : Bs w base ok g tr all) (hok : ∀ k, ok k → base ≤ k → k < w.heap.size → ok' k) : Bs w base ok' g tr all := by
  obtain ⟨u, v, B, h1, h2, h3, h4, h5, h6, h7, h8, h9⟩ := h.ex
  exact ⟨u, v, B, h1, hok g h2 h1 (blk_lt h3), h3, Kd.R_reok (d := U8) rfl h4 (fun k hk => hok k (h4.1 k hk) (Kd.R_base h4 k hk) (Kd.R_lt h4 k hk)), Kd.R_reok (d := U8) rfl h5 (fun k hk => hok k (h5.1 k hk) (Kd.R_base h5 k hk) (Kd.R_lt h5 k hk)), h6, h7, h8, hok B h9 h8 h7.lt⟩
theorem Bs.below (h : Bs w base ok g tr all) (hb : Below w.heap.size w w1) : Bs w1 base ok g tr all := h.move (fun k _ hl => hb.block k hl)
theorem Bs.alloc (h : Bs w base ok g tr all) (o : Obj) : Bs (w.alloc o) base ok g tr all := h.below (below_alloc (Below.refl _ _) o)
theorem Bs.drew (h : Bs w base ok g tr all) : Bs w.drew base ok g tr all := h.move (fun _ _ _ => rfl)
theorem Bs.drewN (h : Bs w base ok g tr all) (m : Nat) : Bs (w.drewN m) base ok g tr all := h.move (fun _ _ _ => rfl)
theorem Bs.lt (h : Bs w base ok g tr all) : g < w.heap.size := by obtain ⟨u, v, B, h1, h2, h3, _⟩ := h.ex; exact blk_lt h3
theorem Bs.low (h : Bs w base ok g tr all) : base ≤ g := by obtain ⟨u, v, B, h1, _⟩ := h.ex; exact h1
/-- Laid open. -/
theorem Bs.open_ (h : Bs w base ok g tr all) : ∃ (u v : Value) (B : Nat), w.heap[g]? = some (.cells #[u, v, .map (some B)] 71 (0, 0)) ∧ U8.R 5 w base (fun k => ok k ∧ k ≠ g ∧ k ≠ B ∧ some k ≠ v.ownBlock) u tr ∧ U8.R 5 w base (fun k => ok k ∧ k ≠ g ∧ k ≠ B ∧ some k ≠ u.ownBlock) v (textsOf all) ∧
    SMap Try.prog 9 w B all.length (posOf all) ∧ base ≤ g ∧ ok g ∧ base ≤ B ∧ ok B ∧ B ≠ g := by
  obtain ⟨u, v, B, h1, h2, h3, h4, h5, h6, h7, h8, h9⟩ := h.ex
  obtain ⟨es, cl, hB⟩ := h7.blk
  have hBg : B ≠ g := by rintro rfl; rw [hB] at h3; cases h3
  have key : ∀ {v : Value} {xs : List Int}, U8.R 5 w base ok v xs → ∀ k, v.ownBlock = some k → k ≠ g ∧ k ≠ B := by
    intro v xs hv k hk
    obtain ⟨inner, ho⟩ := Kd.R_own hv
    obtain ⟨cells, hc⟩ := own_typed ho k hk
    exact ⟨by rintro rfl; rw [h3] at hc; injection hc with hc; injection hc with _ hc; exact absurd hc (by decide), by rintro rfl; rw [hB] at hc; cases hc⟩
  refine ⟨u, v, B, h3, Kd.R_reok (d := U8) rfl h4 (fun k hk => ⟨h4.1 k hk, (key h4 k hk).1, (key h4 k hk).2, fun q => h6 k hk q.symm⟩), Kd.R_reok (d := U8) rfl h5 (fun k hk => ⟨h5.1 k hk, (key h5 k hk).1, (key h5 k hk).2, fun q => h6 k q.symm hk⟩), h7, h1, h2, h8, h9, hBg⟩
/-- Shut again. -/
theorem Bs.shut {u v : Value} {B : Nat} (h3 : w.heap[g]? = some (.cells #[u, v, .map (some B)] 71 (0, 0))) (h4 : U8.R 5 w base ok u tr) (h5 : U8.R 5 w base ok v (textsOf all)) (h6 : ∀ k, u.ownBlock = some k → v.ownBlock ≠ some k)
    (h7 : SMap Try.prog 9 w B all.length (posOf all)) (h1 : base ≤ g) (h2 : ok g) (h8 : base ≤ B) (h9 : ok B) : Bs w base ok g tr all := ⟨u, v, B, h1, h2, h3, h4, h5, h6, h7, h8, h9⟩
/-- The tree's row has been appended to (behind the world W of now), and its slice stored. -/
theorem Bs.tree {W : World} {u v u' : Value} {B : Nat} {tr' : List Int} {N : Nat} (hb : w.heap[g]? = some (.cells #[u, v, .map (some B)] 71 (0, 0))) (hu : U8.R 5 w base (fun k => ok k ∧ k ≠ g ∧ k ≠ B ∧ some k ≠ v.ownBlock) u tr) (hv : U8.R 5 w base (fun k => ok k ∧ k ≠ g ∧ k ≠ B ∧ some k ≠ u.ownBlock) v (textsOf all))
    (hm : SMap Try.prog 9 w B all.length (posOf all)) (h1 : base ≤ g) (h2 : ok g) (h8 : base ≤ B) (h9 : ok B) (hBg : B ≠ g) (hN : N ≤ w.heap.size)
    (hu' : U8.R 5 W base (fun _ => True) u' tr') (hg : w.grownBy W u.ownBlock) (hat : u'.ownBlock = u.ownBlock ∨ ∃ b, u'.ownBlock = some b ∧ w.heap.size ≤ b) :
    Bs (W.setCell ⟨g, 0, none⟩ u') base (fun k => ok k ∨ N ≤ k) g tr' all ∧ Kept w (W.setCell ⟨g, 0, none⟩ u') ok := by
  have hgu : some g ≠ u.ownBlock := fun q => (hu.1 g q.symm).2.1 rfl
  have hBu : some B ≠ u.ownBlock := fun q => (hu.1 B q.symm).2.2.1 rfl
  have hb' : W.heap[g]? = some (.cells #[u, v, .map (some B)] 71 (0, 0)) := blk_grown hb hg hgu
  have hu'g : ∀ k, u'.ownBlock = some k → k ≠ g ∧ k ≠ B ∧ v.ownBlock ≠ some k ∧ (ok k ∨ N ≤ k) := by
    intro k hk
    rcases hat with e | ⟨b, e, hl⟩
    · rw [e] at hk
      obtain ⟨q1, q2, q3, q4⟩ := hu.1 k hk
      exact ⟨q2, q3, fun q => q4 q.symm, .inl q1⟩
    · rw [e] at hk
      injection hk with hk
      subst hk
      have := blk_lt hb
      have := hm.lt
      exact ⟨by omega, by omega, fun q => by have := Kd.R_lt hv b q; omega, .inr (by omega)⟩
  refine ⟨Bs.shut (u := u') (v := v) (B := B) (by simpa using blk_set hb' 0 u') ?_ ?_ (fun k hk => (hu'g k hk).2.2.1) ?_ h1 (.inl h2) h8 (.inl h9), ?_⟩
  · refine Kd.R_reok (d := U8) rfl (U8_move hu' (fun k hk _ => Below.heap_setCell W _ u' k (hu'g k hk).1)) (fun k hk => (hu'g k hk).2.2.2)
  · refine Kd.R_reok (d := U8) rfl (U8_move hv (fun k hk hl => ?_)) (fun k hk => .inl (hv.1 k hk).1)
    exact (Below.heap_setCell W _ u' k (hv.1 k hk).2.1).trans (hg.block k hl (hv.1 k hk).2.2.2)
  · exact hm.of_heap ((Below.heap_setCell W _ u' B hBg).trans (hg.block B hm.lt hBu))
  · exact (Kept.of_grown hg (Kept.refl w ok) (fun k hk => .inl (hu.1 k hk).1)).setCell (.inl h2) u'
/-- The same, the append in a world w7 that calls have made of w. -/
theorem Bs.tree2 {w0 w7 W : World} {u v u' : Value} {B : Nat} {tr' : List Int} (hb : w.heap[g]? = some (.cells #[u, v, .map (some B)] 71 (0, 0))) (hu : U8.R 5 w w0.heap.size (fun k => ok k ∧ k ≠ g ∧ k ≠ B ∧ some k ≠ v.ownBlock) u tr) (hv : U8.R 5 w w0.heap.size (fun k => ok k ∧ k ≠ g ∧ k ≠ B ∧ some k ≠ u.ownBlock) v (textsOf all))
    (hm : SMap Try.prog 9 w B all.length (posOf all)) (h1 : w0.heap.size ≤ g) (h2 : ok g) (h8 : w0.heap.size ≤ B) (h9 : ok B) (hBg : B ≠ g) (hb7 : Below w.heap.size w w7) (hB8 : Below w0.heap.size w0 W)
    (hu' : U8.R 5 W w0.heap.size (fun _ => True) u' tr') (hg : w7.grownBy W u.ownBlock) (hat : u'.ownBlock = u.ownBlock ∨ ∃ b, u'.ownBlock = some b ∧ w7.heap.size ≤ b) :
    Bs (W.setCell ⟨g, 0, none⟩ u') w0.heap.size (fun k => ok k ∨ w.heap.size ≤ k) g tr' all ∧ Below w0.heap.size w0 (W.setCell ⟨g, 0, none⟩ u') ∧ Kept w (W.setCell ⟨g, 0, none⟩ u') ok := by
  obtain ⟨q1, q2⟩ := Bs.tree (w := w7) (N := w.heap.size) (ok := ok) (blk_below hb hb7) (Kd.R_below hu hb7) (Kd.R_below hv hb7) (hm.of_heap (hb7.block B hm.lt)) h1 h2 h8 h9 hBg hb7.size hu' hg hat
  exact ⟨q1, hB8.setCell h1 u', (Kept.of_below hb7 ok).then_ q2 (fun k hk => .inl hk)⟩
/-- The names' row has been appended to. -/
theorem Bs.names2 {w0 w7 W : World} {u v v' : Value} {B : Nat} {xs : List Int} {all' : List ByteArray} (hb : w.heap[g]? = some (.cells #[u, v, .map (some B)] 71 (0, 0))) (hu : U8.R 5 w w0.heap.size (fun k => ok k ∧ k ≠ g ∧ k ≠ B ∧ some k ≠ v.ownBlock) u tr) (hv : U8.R 5 w w0.heap.size (fun k => ok k ∧ k ≠ g ∧ k ≠ B ∧ some k ≠ u.ownBlock) v xs)
    (hm : SMap Try.prog 9 w B all'.length (posOf all')) (h1 : w0.heap.size ≤ g) (h2 : ok g) (h8 : w0.heap.size ≤ B) (h9 : ok B) (hBg : B ≠ g) (hb7 : Below w.heap.size w w7) (hB8 : Below w0.heap.size w0 W)
    (hv' : U8.R 5 W w0.heap.size (fun _ => True) v' (textsOf all')) (hg : w7.grownBy W v.ownBlock) (hat : v'.ownBlock = v.ownBlock ∨ ∃ b, v'.ownBlock = some b ∧ w7.heap.size ≤ b) :
    Bs (W.setCell ⟨g, 1, none⟩ v') w0.heap.size (fun k => ok k ∨ w.heap.size ≤ k) g tr all' ∧ Below w0.heap.size w0 (W.setCell ⟨g, 1, none⟩ v') ∧ Kept w (W.setCell ⟨g, 1, none⟩ v') ok := by
  have hgv : some g ≠ v.ownBlock := fun q => (hv.1 g q.symm).2.1 rfl
  have hBv : some B ≠ v.ownBlock := fun q => (hv.1 B q.symm).2.2.1 rfl
  have hb' := blk_grown (blk_below hb hb7) hg hgv
  have hv'g : ∀ k, v'.ownBlock = some k → k ≠ g ∧ k ≠ B ∧ u.ownBlock ≠ some k ∧ (ok k ∨ w.heap.size ≤ k) := by
    intro k hk
    have hsz := hb7.size
    rcases hat with e | ⟨b, e, hl⟩
    · rw [e] at hk
      obtain ⟨q1, q2, q3, q4⟩ := hv.1 k hk
      exact ⟨q2, q3, fun q => q4 q.symm, .inl q1⟩
    · rw [e] at hk
      injection hk with hk
      subst hk
      have := blk_lt hb
      have := hm.lt
      exact ⟨by omega, by omega, fun q => by have := Kd.R_lt hu b q; omega, .inr (by omega)⟩
  refine ⟨Bs.shut (u := u) (v := v') (B := B) (by simpa using blk_set hb' 1 v') ?_ ?_ (fun k hk q => (hv'g k q).2.2.1 hk) ?_ h1 (.inl h2) h8 (.inl h9), hB8.setCell h1 v', ?_⟩
  · refine Kd.R_reok (d := U8) rfl (U8_move hu (fun k hk hl => ?_)) (fun k hk => .inl (hu.1 k hk).1)
    exact (Below.heap_setCell W _ v' k (hu.1 k hk).2.1).trans ((hg.block k (Nat.lt_of_lt_of_le hl hb7.size) (hu.1 k hk).2.2.2).trans (hb7.block k hl))
  · refine Kd.R_reok (d := U8) rfl (U8_move hv' (fun k hk _ => Below.heap_setCell W _ v' k (hv'g k hk).1)) (fun k hk => (hv'g k hk).2.2.2)
  · exact hm.of_heap ((Below.heap_setCell W _ v' B hBg).trans ((hg.block B (Nat.lt_of_lt_of_le hm.lt hb7.size) hBv).trans (hb7.block B hm.lt)))
  · exact (Kept.of_grown hg (Kept.of_below hb7 ok) (fun k hk => .inl (hv.1 k hk).1)).setCell (.inl h2) v'
end
end Go.Proofs.Ytmhlellhfepkkaa.B
