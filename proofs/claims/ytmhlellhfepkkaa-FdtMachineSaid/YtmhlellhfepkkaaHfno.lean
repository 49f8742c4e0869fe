/- builder.node: what a walk of it carries, and what it comes to. -/
import Derived.Test.YtmhlellhfepkkaaHfp
import Derived.Test.YtmhlellhfepkkaaHfn
import Derived.Test.YtmhlellhfepkkaaHkp
namespace Go.Proofs.Ytmhlellhfepkkaa.B
open Go.RowKit Go.Proofs.YtmhlellhfepkkaaW.PrintWords Go.Proofs.YtmhlellhfepkkaaW.PrintLast Go.Proofs.YtmhlellhfepkkaaW.PrintMore Go.Proofs.Ytmhlellhfepkkaa.PAl Go.Proofs.Ytmhlellhfepkkaa.H
attribute [local go_sem ↓] Go.wp_at_zero Go.wp_at_succ
set_option linter.unusedVariables false
set_option linter.unusedSimpArgs false
/-- From w on, now wi: the builder, beside blocks of the call's own (pr). -/
structure NS (w0 w wi : World) (ok pr : Nat → Prop) (g : Nat) (tr : List Int) (all : List ByteArray) : Prop where
  bs : Bs wi w0.heap.size (fun k => (ok k ∨ w.heap.size ≤ k) ∧ ¬ pr k) g tr all
  be : Below w0.heap.size w0 wi
  kp : Kept w wi ok
  lo : ∀ k, pr k → w.heap.size ≤ k ∧ k < wi.heap.size
  sz : w0.heap.size ≤ w.heap.size
section
variable {w0 w wi w3 : World} {ok pr pr' : Nat → Prop} {g : Nat} {tr tr' : List Int} {all all' : List ByteArray}
theorem NS.begin_ (hB : Below w0.heap.size w0 w) (hs : Bs w w0.heap.size ok g tr all) : NS w0 w w ok (fun _ => False) g tr all :=
  ⟨hs.mono (fun k hk _ _ => ⟨.inl hk, id⟩), hB, Kept.refl _ _, fun _ h => h.elim, hB.size⟩
theorem NS.step (h : NS w0 w wi ok pr g tr all) (hs : Bs w3 w0.heap.size (fun k => ((ok k ∨ w.heap.size ≤ k) ∧ ¬ pr k) ∨ wi.heap.size ≤ k) g tr' all') (hb : Below w0.heap.size w0 w3) (hk : Kept wi w3 (fun k => (ok k ∨ w.heap.size ≤ k) ∧ ¬ pr k)) : NS w0 w w3 ok pr g tr' all' :=
  ⟨hs.mono (fun k hk _ _ => hk.elim id (fun hk => ⟨.inr (Nat.le_trans h.kp.1 hk), fun hp => by have := (h.lo k hp).2; omega⟩)), hb, h.kp.then_ hk (fun k hk => hk.1), fun k hp => ⟨(h.lo k hp).1, Nat.lt_of_lt_of_le (h.lo k hp).2 hk.1⟩, h.sz⟩
theorem NS.drew (h : NS w0 w wi ok pr g tr all) : NS w0 w wi.drew ok pr g tr all := ⟨h.bs.drew, h.be.drew, h.kp.drew, h.lo, h.sz⟩
theorem NS.below (h : NS w0 w wi ok pr g tr all) (hb : Below wi.heap.size wi w3) : NS w0 w w3 ok pr g tr all :=
  ⟨h.bs.below hb, h.be.trans ⟨hb.os, hb.tape, hb.output, hb.size, fun k hk => hb.block k (Nat.lt_of_lt_of_le hk h.be.size)⟩, h.kp.below hb, fun k hp => ⟨(h.lo k hp).1, Nat.lt_of_lt_of_le (h.lo k hp).2 hb.size⟩, h.sz⟩
/-- Blocks of the call's own are written. -/
theorem NS.kpt (h : NS w0 w wi ok pr g tr all) {S : Nat → Prop} (hk : Kp wi w3 S) (hS : ∀ k, S k → pr k) : NS w0 w w3 ok pr g tr all :=
  ⟨h.bs.move (fun k ho hl => hk.block k hl (fun q => ho.2 (hS k q))), h.be.trans ⟨hk.os, hk.tape, hk.output, hk.size, fun k hl => hk.block k (Nat.lt_of_lt_of_le hl h.be.size) (fun q => by have := (h.lo k (hS k q)).1; have := h.sz; omega)⟩,
    h.kp.then_ (S2 := S) ⟨hk.size, fun k hl hn => hk.block k hl hn⟩ (fun k q => .inr (h.lo k (hS k q)).1), fun k q => ⟨(h.lo k q).1, Nat.lt_of_lt_of_le (h.lo k q).2 hk.size⟩, h.sz⟩
/-- A block of the call's own is made. -/
theorem NS.make (h : NS w0 w wi ok pr g tr all) (hk : Kp wi w3 (fun _ => False)) {gp : Nat} (hgp : gp = wi.heap.size) (hlt : gp < w3.heap.size) (hpr : ∀ k, pr' k → pr k ∨ k = gp) : NS w0 w w3 ok pr' g tr all := by
  have h3 := h.kpt hk (fun _ q => q.elim)
  refine ⟨?_, h3.be, h3.kp, fun k hp => (hpr k hp).elim (h3.lo k) (fun e => ⟨by have := h.kp.1; omega, by omega⟩), h.sz⟩
  exact Bs.move (h.bs.mono (fun k hk _ hl => ⟨hk.1, fun hp => (hpr k hp).elim hk.2 (fun e => by omega)⟩)) (fun k _ hl => hk.block k hl id)
theorem NS.weak (h : NS w0 w wi ok pr' g tr all) (hp : ∀ k, pr k → pr' k) : NS w0 w wi ok pr g tr all :=
  ⟨h.bs.mono (fun k hk _ _ => ⟨hk.1, fun q => hk.2 (hp k q)⟩), h.be, h.kp, fun k q => h.lo k (hp k q), h.sz⟩
end
def bput (tr ys : List Int) : Option (List Int) := if tr.length + ys.length < 140737488355328 then some (tr ++ ys) else none
def w32 (x : Int) : List Int := [(x / 16777216) % 256, (x / 65536) % 256, (x / 256) % 256, (x) % 256]
theorem word_b {x : Int} {tr tr' : List Int} (h : bput tr (w32 x) = some tr') {w0 w wi : World} {ok pr : Nat → Prop} {g : Nat} {all : List ByteArray} (hs : NS w0 w wi ok pr g tr all) :
    Calls Try.prog 30 #[.pointer (some ⟨g, 0, none⟩), .int .u32 x] wi fun e w' => e = .returned (.tuple #[]) ∧ NS w0 w w' ok pr g tr' all ∧ Kept wi w' (fun k => (ok k ∨ w.heap.size ≤ k) ∧ ¬ pr k) := by
  unfold bput at h
  split at h
  · rename_i hl
    obtain rfl := Option.some.inj h
    exact (word_c x (w32 x) tr all g _ w0 wi hs.be hs.bs rfl hl).mono fun e w' h => ⟨h.1, hs.step h.2.1 h.2.2.1 h.2.2.2, h.2.2.2⟩
  · cases h
theorem padded_b {k : Nat} {tr tr' : List Int} (h : vireoref26_pad.f k tr = some tr') {w0 w wi : World} {ok pr : Nat → Prop} {g : Nat} {all : List ByteArray} (hs : NS w0 w wi ok pr g tr all) :
    Calls Try.prog 41 #[.pointer (some ⟨g, 0, none⟩)] wi fun e w' => e = .returned (.tuple #[]) ∧ NS w0 w w' ok pr g tr' all ∧ Kept wi w' (fun k => (ok k ∨ w.heap.size ≤ k) ∧ ¬ pr k) :=
  (padded_c k tr' tr all g _ w0 wi hs.be hs.bs h).mono fun e w' h => ⟨h.1, hs.step h.2.1 h.2.2.1 h.2.2.2, h.2.2.2⟩
theorem name_b {s : ByteArray} {n : Int} {all all' : List ByteArray} (h : bname all s = some (n, all')) {tr : List Int} {w0 w wi : World} {ok pr : Nat → Prop} {g : Nat} (hs : NS w0 w wi ok pr g tr all) :
    Calls Try.prog 42 #[.pointer (some ⟨g, 0, none⟩), .string s] wi fun e w' => e = .returned (.int .u32 n) ∧ NS w0 w w' ok pr g tr all' ∧ Kept wi w' (fun k => (ok k ∨ w.heap.size ≤ k) ∧ ¬ pr k) :=
  (name_c s n tr all all' g _ w0 wi hs.be hs.bs h).mono fun e w' h => ⟨h.1, hs.step h.2.1 h.2.2.1 h.2.2.2, h.2.2.2⟩
/-! what a node comes to -/
def bprops : List S74 → List Int → List ByteArray → Option (List Int × List ByteArray)
  | [], tr, all => some (tr, all)
  | p :: ps, tr, all => if p.f1.length < 2147483648 then
      (bput tr (w32 3)).bind fun t1 => (bput t1 (w32 p.f1.length)).bind fun t2 => (bname all p.f0).bind fun na => (bput t2 (w32 na.1)).bind fun t3 => (bput t3 p.f1).bind fun t4 => (vireoref26_pad.f 5 t4).bind fun t5 => bprops ps t5 na.2
    else none
def bnodes (F : S32 → List Int → List ByteArray → Option (List Int × List ByteArray)) : List S32 → List Int → List ByteArray → Option (List Int × List ByteArray)
  | [], tr, all => some (tr, all)
  | x :: xs, tr, all => (F x tr all).bind fun q => bnodes F xs q.1 q.2
def bnode : Nat → S32 → List Int → List ByteArray → Option (List Int × List ByteArray)
  | 0, _, _, _ => none
  | k + 1, n, tr, all => if n.f0.size < 2147483648 ∧ n.f1.length < 65536 ∧ n.f2.length < 65536 then
      (bput tr (w32 1)).bind fun t1 => (bput t1 (bytesOf n.f0 ++ [0])).bind fun t2 => (vireoref26_pad.f 5 t2).bind fun t3 => (bprops n.f1 t3 all).bind fun q => (bnodes (bnode k) n.f2 q.1 q.2).bind fun z => (bput z.1 (w32 2)).bind fun t => some (t, z.2)
    else none
end Go.Proofs.Ytmhlellhfepkkaa.B
