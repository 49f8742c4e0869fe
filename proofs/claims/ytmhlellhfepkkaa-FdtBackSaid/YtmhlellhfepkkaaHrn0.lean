/- fdt.reader.node: what it comes to, and what a walk of it carries. -/
import Derived.Test.YtmhlellhfepkkaaHrp
namespace Go.Proofs.Ytmhlellhfepkkaa.B
open Go.RowKit Go.Proofs.YtmhlellhfepkkaaW.PrintWords Go.Proofs.YtmhlellhfepkkaaW.PrintLast Go.Proofs.YtmhlellhfepkkaaW.PrintMore Go.Proofs.Ytmhlellhfepkkaa.PAl Go.Proofs.Ytmhlellhfepkkaa.H
set_option linter.unusedVariables false
set_option linter.unusedSimpArgs false
def nilN : S32 := ⟨⟨#[]⟩, [], []⟩
mutual
def rloop : Nat → List Int → Int → List Int → Bool → Int → ByteArray → List S74 → List S32 → Option (S32 × List Int × Bool × Int)
  | 0, _, _, _, _, _, _, _, _ => none
  | k + 1, nm, dep, t, bad, left, name, ps, ks =>
    if bad = true then some (⟨name, ps, ks⟩, t, bad, left)
    else if wv t = 3 then (rprop k (rw4 t) nm (rbad t bad)).bind fun q => if ps.length < 1099511627776 then rloop k nm dep q.2.2.1 q.2.2.2 left name (ps ++ [⟨q.1, q.2.1⟩]) ks else none
    else if wv t = 1 then (rnode k nm (dep + 1) (rw4 t) (rbad t bad) left).bind fun q => if ks.length < 1099511627776 then rloop k nm dep q.2.1 q.2.2.1 q.2.2.2 name ps (ks ++ [q.1]) else none
    else if wv t = 2 then some (⟨name, ps, ks⟩, rw4 t, rbad t bad, left)
    else rloop k nm dep (rw4 t) true left name ps ks
def rnode : Nat → List Int → Int → List Int → Bool → Int → Option (S32 × List Int × Bool × Int)
  | 0, _, _, _, _, _ => none
  | k + 1, nm, dep, t, bad, left =>
    if -1000000 < left ∧ left < 1000000 ∧ 0 ≤ dep ∧ dep < 1000000 then
      (fdt_text.f k t).bind fun q =>
        if q.2 = false ∨ 8 < dep ∨ left - 1 < 0 then some (nilN, t, true, left - 1)
        else if q.1.size < 1000000000000 then rloop k nm dep (trest t ((q.1.size : Int) + 1)) (tbad t ((q.1.size : Int) + 1) bad) (left - 1) q.1 [] [] else none
    else none
end
theorem rprop_mono (k : Nat) (t nm : List Int) (bad : Bool) : LeO (rprop k t nm bad) (rprop (k + 1) t nm bad) := by
  unfold rprop
  exact LeO.ite (LeO.refl _) (LeO.bind (fdt_text.mono _ k) (fun _ => LeO.refl _))
theorem rn_mono : ∀ k, (∀ nm dep t bad left name ps ks, LeO (rloop k nm dep t bad left name ps ks) (rloop (k + 1) nm dep t bad left name ps ks)) ∧ (∀ nm dep t bad left, LeO (rnode k nm dep t bad left) (rnode (k + 1) nm dep t bad left))
  | 0 => ⟨fun _ _ _ _ _ _ _ _ r h => by simp [rloop] at h, fun _ _ _ _ _ r h => by simp [rnode] at h⟩
  | k + 1 => by
    obtain ⟨i1, i2⟩ := rn_mono k
    constructor
    · intro nm dep t bad left name ps ks
      rw [rloop.eq_2, rloop.eq_2]
      refine LeO.ite (LeO.refl _) (LeO.ite (LeO.bind (rprop_mono k _ _ _) (fun q => LeO.ite (i1 _ _ _ _ _ _ _ _) (LeO.refl _))) (LeO.ite (LeO.bind (i2 _ _ _ _ _) (fun q => LeO.ite (i1 _ _ _ _ _ _ _ _) (LeO.refl _))) (LeO.ite (LeO.refl _) (i1 _ _ _ _ _ _ _ _))))
    · intro nm dep t bad left
      rw [rnode.eq_2, rnode.eq_2]
      refine LeO.ite (LeO.bind (fdt_text.mono _ k) (fun q => LeO.ite (LeO.refl _) (LeO.ite (i1 _ _ _ _ _ _ _ _) (LeO.refl _)))) (LeO.refl _)
theorem trest_len (t : List Int) (n : Int) : (trest t n).length ≤ t.length := by
  unfold trest; split
  · exact Nat.le_refl _
  · rw [List.length_drop]; omega
theorem rprop_len {k : Nat} {t nm : List Int} {bad : Bool} {r : ByteArray × List Int × List Int × Bool} (h : rprop k t nm bad = some r) : r.2.2.1.length ≤ t.length := by
  have h1 := rw4_len t; have h2 := rw4_len (rw4 t)
  unfold rprop at h
  split at h
  · obtain rfl := Option.some.inj h; dsimp only; omega
  · obtain ⟨q, _, h⟩ := Option.bind_eq_some_iff.mp h
    obtain rfl := Option.some.inj h
    have h3 := trest_len (rw4 (rw4 t)) (wv t)
    dsimp only; omega
theorem rn_len : ∀ k, (∀ nm dep t bad left name ps ks r, rloop k nm dep t bad left name ps ks = some r → r.2.1.length ≤ t.length) ∧ (∀ nm dep t bad left r, rnode k nm dep t bad left = some r → r.2.1.length ≤ t.length)
  | 0 => ⟨fun _ _ _ _ _ _ _ _ r h => by simp [rloop] at h, fun _ _ _ _ _ r h => by simp [rnode] at h⟩
  | k + 1 => by
    obtain ⟨i1, i2⟩ := rn_len k
    constructor
    · intro nm dep t bad left name ps ks r h
      have h1 := rw4_len t
      rw [rloop.eq_2] at h
      split at h
      · obtain rfl := Option.some.inj h; exact Nat.le_refl _
      · split at h
        · obtain ⟨q, hq, h⟩ := Option.bind_eq_some_iff.mp h
          have h2 := rprop_len hq
          split at h
          · have := i1 _ _ _ _ _ _ _ _ _ h; omega
          · cases h
        · split at h
          · obtain ⟨q, hq, h⟩ := Option.bind_eq_some_iff.mp h
            have h2 := i2 _ _ _ _ _ _ hq
            split at h
            · have := i1 _ _ _ _ _ _ _ _ _ h; omega
            · cases h
          · split at h
            · obtain rfl := Option.some.inj h; exact h1
            · have := i1 _ _ _ _ _ _ _ _ _ h; omega
    · intro nm dep t bad left r h
      rw [rnode.eq_2] at h
      split at h
      · obtain ⟨q, hq, h⟩ := Option.bind_eq_some_iff.mp h
        split at h
        · obtain rfl := Option.some.inj h; exact Nat.le_refl _
        · split at h
          · have h2 := i1 _ _ _ _ _ _ _ _ _ h; have h3 := trest_len t ((q.1.size : Int) + 1); omega
          · cases h
      · cases h
/-- From w on, now wi: the reader at g, and two rows of the call's own. -/
structure NL (w0 w wi : World) (g : Nat) (X : Nat → Prop) (t nm : List Int) (bad : Bool) (left : Int) (At : Option Addr) (ct : Nat) (An : Option Addr) (cn : Nat) (v1 v2 : Value) (ps : List S74) (ks : List S32) : Prop where
  rs : Rs w0 wi g t nm bad left At ct An cn
  n1 : Kd.N k74 74 wi w0.heap.size (fun k => (w.heap.size ≤ k ∧ ¬ X k) ∧ some k ≠ v2.ownBlock) v1 ps
  n2 : Kd.N k32 32 wi w0.heap.size (fun k => (w.heap.size ≤ k ∧ ¬ X k) ∧ some k ≠ v1.ownBlock) v2 ks
  kp : Kp w wi (fun i => i = g)
  gl : g < w.heap.size
  bl : Below w0.heap.size w0 w
section
variable {w0 w wi w3 : World} {g : Nat} {X : Nat → Prop} {t t' nm : List Int} {bad bad' : Bool} {left left' : Int} {At At' : Option Addr} {ct ct' : Nat} {An : Option Addr} {cn : Nat} {v1 v2 u1 : Value} {ps : List S74} {ks : List S32}
/-- The reader goes on; blocks beside ours (S) are written. -/
theorem NL.move (h : NL w0 w wi g X t nm bad left At ct An cn v1 v2 ps ks) {S : Nat → Prop} (hk : Kp wi w3 S) (hS : ∀ k, S k → k = g ∨ X k) (hX : ∀ k, X k → w.heap.size ≤ k) (hr : Rs w0 w3 g t' nm bad' left' At' ct' An cn) : NL w0 w w3 g X t' nm bad' left' At' ct' An cn v1 v2 ps ks :=
  have hgl := h.gl
  ⟨hr, Kd.N_kept h.n1 (S := S) ⟨hk.size, hk.block⟩ (fun k e q => (hS k q).elim (fun e2 => by have := e.1.1; omega) e.1.2), Kd.N_kept h.n2 (S := S) ⟨hk.size, hk.block⟩ (fun k e q => (hS k q).elim (fun e2 => by have := e.1.1; omega) e.1.2),
    h.kp.then hk (fun k hl q => (hS k q).elim id (fun q2 => by have := hX k q2; omega)), h.gl, h.bl⟩
/-- One more thing told. -/
theorem NL.app1 (h : NL w0 w wi g X t nm bad left At ct An cn v1 v2 ps ks) {p : S74} (hn : Kd.N k74 74 w3 w0.heap.size (fun k => (w.heap.size ≤ k ∧ ¬ X k) ∧ some k ≠ v2.ownBlock) u1 (ps ++ [p])) (hb : Below w0.heap.size w0 w3) (hg : wi.grownBy w3 v1.ownBlock) (hat : u1.ownBlock = v1.ownBlock ∨ ∃ b, u1.ownBlock = some b ∧ wi.heap.size ≤ b) (hne : some g ≠ v1.ownBlock) : NL w0 w w3 g X t nm bad left At ct An cn u1 v2 (ps ++ [p]) ks :=
  ⟨⟨blk_grown h.rs.b hg hne, h.rs.tC, h.rs.tl, h.rs.nC, h.rs.nl, h.rs.ge, hb⟩, hn, Kd.N_after h.n2 hg hat,
    kp_then h.kp hb h.bl (Kept.of_grown (S := fun k => some k = v1.ownBlock) hg (Kept.refl _ _) (fun k e => .inl e.symm)) (fun k e => .inr (h.n1.1 k e.symm).1.1), h.gl, h.bl⟩
theorem NL.app2 (h : NL w0 w wi g X t nm bad left At ct An cn v1 v2 ps ks) {p : S32} (hn : Kd.N k32 32 w3 w0.heap.size (fun k => (w.heap.size ≤ k ∧ ¬ X k) ∧ some k ≠ v1.ownBlock) u1 (ks ++ [p])) (hb : Below w0.heap.size w0 w3) (hg : wi.grownBy w3 v2.ownBlock) (hat : u1.ownBlock = v2.ownBlock ∨ ∃ b, u1.ownBlock = some b ∧ wi.heap.size ≤ b) (hne : some g ≠ v2.ownBlock) : NL w0 w w3 g X t nm bad left At ct An cn v1 u1 ps (ks ++ [p]) :=
  ⟨⟨blk_grown h.rs.b hg hne, h.rs.tC, h.rs.tl, h.rs.nC, h.rs.nl, h.rs.ge, hb⟩, Kd.N_after h.n1 hg hat, hn,
    kp_then h.kp hb h.bl (Kept.of_grown (S := fun k => some k = v2.ownBlock) hg (Kept.refl _ _) (fun k e => .inl e.symm)) (fun k e => .inr (h.n2.1 k e.symm).1.1), h.gl, h.bl⟩
end
end Go.Proofs.Ytmhlellhfepkkaa.B
