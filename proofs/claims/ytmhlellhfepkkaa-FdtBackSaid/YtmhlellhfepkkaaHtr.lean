/- vireoref26.tree: what a walk of it carries, and what it comes to. -/
import Derived.Test.YtmhlellhfepkkaaHfby
import Derived.Test.YtmhlellhfepkkaaVs
namespace Go.Proofs.Ytmhlellhfepkkaa.PAl
open Go.RowKit Go.Proofs.YtmhlellhfepkkaaW.PrintWords Go.Proofs.YtmhlellhfepkkaaW.PrintLast Go.Proofs.YtmhlellhfepkkaaW.PrintMore Go.Proofs.Ytmhlellhfepkkaa.H Go.Proofs.Ytmhlellhfepkkaa.B
set_option linter.unusedVariables false
set_option linter.unusedSimpArgs false
theorem info3 : (Try.prog.info? 3).map (fun i => (i.zero, i.size, i.bytes)) = some (some (.int .i64 0), 1, 8) := by kernel_rfl
theorem k74_heap : Kd.Heap k74 := Kd.heap_iso _ (Kd.heap_pair Kd.heap_string (Kd.heap_slice 5 (Kd.heap_int .u8)))
theorem k32_heap : Kd.Heap k32 := Kd.heap_fix (fun _ h_ => Kd.heap_iso _ (Kd.heap_pair Kd.heap_string (Kd.heap_pair (Kd.heap_slice 74 k74_heap) (Kd.heap_slice 32 h_))))
theorem k55_heap : Kd.Heap k55 := Kd.heap_iso _ (Kd.heap_pair Kd.heap_string (Kd.heap_slice 5 (Kd.heap_int .u8)))
theorem k50_heap : Kd.Heap k50 := Kd.heap_iso _ (Kd.heap_pair (Kd.heap_int .i64) (Kd.heap_pair Kd.heap_string (Kd.heap_slice 55 k55_heap)))
theorem at50 {W : World} {ad : Addr} {n : Nat} {xs : List S50} (h : Kd.C k50 W (some ad) n xs) (i : Int) (h0 : 0 ≤ i) (h1 : i < n) : ∃ A2 c2, W.cell? (ad.add (i.toNat * 3)) = some (.int .i64 (rd_T50 xs i).f0) ∧ W.cell? ⟨(ad.add (i.toNat * 3)).block, (ad.add (i.toNat * 3)).off + 1, none⟩ = some (.string (rd_T50 xs i).f1) ∧
    W.cell? ⟨(ad.add (i.toNat * 3)).block, (ad.add (i.toNat * 3)).off + 2, none⟩ = some (.slice A2 (rd_T50 xs i).f2.length c2) ∧ (rd_T50 xs i).f2.length ≤ c2 ∧ k55.C W A2 (rd_T50 xs i).f2.length (rd_T50 xs i).f2 := by
  obtain ⟨ad', A2, c2, e, r⟩ := at_T50 h i h0 h1
  cases e
  exact ⟨A2, c2, r⟩
/-- A cell that is there in every world that keeps all but P is the same in each. -/
theorem kept_cell {w W_ : World} {P : Nat → Prop} {a : Addr} (h : ∀ W_, Kept w W_ P → (W_.cell? a).isSome = true) (hk : Kept w W_ P) : W_.cell? a = w.cell? a := by
  obtain ⟨v, hv⟩ := Option.isSome_iff_exists.mp (h w (Kept.refl _ _))
  have hlt := World.block_lt_of_cell? w a hv
  by_cases hp : P a.block
  · exfalso
    have h0 := h { w with heap := w.heap.setIfInBounds a.block (.cells #[] 0 (0, 0)) } ⟨by simp, fun i hi hn => by
      have hne : a.block ≠ i := fun e => hn (e ▸ hp)
      simp [Array.getElem?_setIfInBounds, hne]⟩
    simp [World.cell?, Array.getElem?_setIfInBounds, hlt] at h0
  · exact World.cell?_of_block (hk.2 a.block hlt hp)
theorem at50k {w : World} {P : Nat → Prop} {ad : Addr} {n : Nat} {xs : List S50} (h : ∀ W_, Kept w W_ P → Kd.C k50 W_ (some ad) n xs) (i : Int) (h0 : 0 ≤ i) (h1 : i < n) : ∃ A2 c2, (∀ W, Kept w W P → W.cell? (ad.add (i.toNat * 3)) = some (.int .i64 (rd_T50 xs i).f0) ∧ W.cell? ⟨(ad.add (i.toNat * 3)).block, (ad.add (i.toNat * 3)).off + 1, none⟩ = some (.string (rd_T50 xs i).f1) ∧
    W.cell? ⟨(ad.add (i.toNat * 3)).block, (ad.add (i.toNat * 3)).off + 2, none⟩ = some (.slice A2 (rd_T50 xs i).f2.length c2)) ∧ (rd_T50 xs i).f2.length ≤ c2 ∧ ∀ W_, Kept w W_ P → k55.C W_ A2 (rd_T50 xs i).f2.length (rd_T50 xs i).f2 := by
  obtain ⟨A2, c2, x0, x1, x2, xl, xc⟩ := at50 (h w (Kept.refl _ _)) i h0 h1
  have key : ∀ W, Kept w W P → ∀ A c, W.cell? ⟨(ad.add (i.toNat * 3)).block, (ad.add (i.toNat * 3)).off + 2, none⟩ = some (.slice A (rd_T50 xs i).f2.length c) → A = A2 ∧ c = c2 := by
    intro W hk A c hc
    have e := kept_cell (fun W_ hk_ => by obtain ⟨A, c, _, _, y2, _⟩ := at50 (h W_ hk_) i h0 h1; rw [y2]; rfl) hk
    rw [hc, x2] at e
    injection e with e
    injection e with e1 _ e2
    exact ⟨e1, e2⟩
  refine ⟨A2, c2, fun W hk => ?_, xl, fun W hk => ?_⟩
  · obtain ⟨A, c, y0, y1, y2, _⟩ := at50 (h W hk) i h0 h1
    obtain ⟨rfl, rfl⟩ := key W hk A c y2
    exact ⟨y0, y1, y2⟩
  · obtain ⟨A, c, y0, y1, y2, _, yc⟩ := at50 (h W hk) i h0 h1
    obtain ⟨rfl, rfl⟩ := key W hk A c y2
    exact yc
theorem at55k {w : World} {P : Nat → Prop} {A2 : Option Addr} {n : Nat} {xs : List S55} (h : ∀ W_, Kept w W_ P → Kd.C k55 W_ A2 n xs) (i : Nat) (h1 : i < n) : ∃ ad A' c', A2 = some ad ∧ (∀ W, Kept w W P → W.cell? (ad.add (i * 2)) = some (.string (rd_T55 xs (i : Int)).f0) ∧
    W.cell? ⟨(ad.add (i * 2)).block, (ad.add (i * 2)).off + 1, none⟩ = some (.slice A' (rd_T55 xs (i : Int)).f1.length c')) ∧ (rd_T55 xs (i : Int)).f1.length ≤ c' ∧ ∀ W_, Kept w W_ P → (Kd.int .u8).C W_ A' (rd_T55 xs (i : Int)).f1.length (rd_T55 xs (i : Int)).f1 := by
  obtain ⟨ad, A', c', e, x0, x1, xl, xc⟩ := at_T55 (h w (Kept.refl _ _)) (i : Int) (by omega) (by omega)
  rw [Int.toNat_natCast] at x0 x1
  subst e
  have op : ∀ W, Kept w W P → ∃ A c, W.cell? (ad.add (i * 2)) = some (.string (rd_T55 xs (i : Int)).f0) ∧ W.cell? ⟨(ad.add (i * 2)).block, (ad.add (i * 2)).off + 1, none⟩ = some (.slice A (rd_T55 xs (i : Int)).f1.length c) ∧ (Kd.int .u8).C W A (rd_T55 xs (i : Int)).f1.length (rd_T55 xs (i : Int)).f1 := by
    intro W hk
    obtain ⟨ad2, A, c, e, y0, y1, _, yc⟩ := at_T55 (h W hk) (i : Int) (by omega) (by omega)
    rw [Int.toNat_natCast] at y0 y1
    cases e
    exact ⟨A, c, y0, y1, yc⟩
  have key : ∀ W, Kept w W P → ∀ A c, W.cell? ⟨(ad.add (i * 2)).block, (ad.add (i * 2)).off + 1, none⟩ = some (.slice A (rd_T55 xs (i : Int)).f1.length c) → A = A' ∧ c = c' := by
    intro W hk A c hc
    have e := kept_cell (fun W_ hk_ => by obtain ⟨A, c, _, y1, _⟩ := op W_ hk_; rw [y1]; rfl) hk
    rw [hc, x1] at e
    injection e with e
    injection e with e1 _ e2
    exact ⟨e1, e2⟩
  refine ⟨ad, A', c', rfl, fun W hk => ?_, xl, fun W hk => ?_⟩
  · obtain ⟨A, c, y0, y1, _⟩ := op W hk
    obtain ⟨rfl, rfl⟩ := key W hk A c y1
    exact ⟨y0, y1⟩
  · obtain ⟨A, c, y0, y1, yc⟩ := op W hk
    obtain ⟨rfl, rfl⟩ := key W hk A c y1
    exact yc
/-- From w on, now wi: a row of bytes of the call's own, and a row of names. -/
structure TS (w0 w wi : World) (P : Nat → Prop) (vo va : Value) (out : List Int) (all : List ByteArray) : Prop where
  o : U8.R 5 wi w0.heap.size (fun k => P k ∨ w.heap.size ≤ k) vo out
  a : Kd.string.R 9 wi w0.heap.size (fun k => P k ∨ w.heap.size ≤ k) va all
  be : Below w0.heap.size w0 wi
  kp : Kept w wi P
section
variable {w0 w wi w1 : World} {P ok1 : Nat → Prop} {vo va v1 : Value} {out out1 : List Int} {all all1 : List ByteArray}
theorem TS.ne (h : TS w0 w wi P vo va out all) : ∀ k, some k = vo.ownBlock → some k ≠ va.ownBlock := by
  intro k e1 e2
  obtain ⟨i1, o1⟩ := Kd.R_own h.o
  obtain ⟨i2, o2⟩ := Kd.R_own h.a
  obtain ⟨c1, q1⟩ := own_typed o1 k e1.symm
  obtain ⟨c2, q2⟩ := own_typed o2 k e2.symm
  rw [q1] at q2
  injection q2 with q2
  injection q2 with _ q2
  exact absurd q2 (by decide)
theorem TS.start (hB : Below w0.heap.size w0 w) (ha : Kd.string.R 9 w w0.heap.size P va all) (ho : U8.R 5 w1 w.heap.size (fun _ => True) vo out) (hb : Below w.heap.size w w1) : TS w0 w w1 P vo va out all :=
  ⟨Kd.R_reok (d := U8) rfl (Kd.R_lower ho hB.size) (fun k hk => .inr (Kd.R_base ho k hk)), Kd.R_mono (Kd.R_below ha hb) (fun k hk => .inl hk), below_step hB hb, Kept.of_below hb P⟩
theorem TS.below (h : TS w0 w wi P vo va out all) (hb : Below wi.heap.size wi w1) : TS w0 w w1 P vo va out all :=
  ⟨Kd.R_below h.o hb, Kd.R_below h.a hb, below_step h.be hb, h.kp.below hb⟩
theorem TS.put (h : TS w0 w wi P vo va out all) (ho : U8.R 5 w1 w0.heap.size ok1 v1 out1) (hok : ∀ k, v1.ownBlock = some k → some k = vo.ownBlock ∨ wi.heap.size ≤ k) (hb : Below w0.heap.size w0 w1) (hk : Kept wi w1 (fun k => some k = vo.ownBlock)) : TS w0 w w1 P v1 va out1 all :=
  ⟨Kd.R_reok (d := U8) rfl ho (fun k q => (hok k q).elim (fun e => h.o.1 k e.symm) (fun e => .inr (Nat.le_trans h.kp.1 e))),
    Kd.R_reok (d := Kd.string) rfl (Kd.R_kept (Kd.R_tight (d := Kd.string) rfl h.a) hk (fun k e q => h.ne k q e)) (fun k q => h.a.1 k q), hb,
    ⟨Nat.le_trans h.kp.1 hk.1, fun i hi hn => (hk.2 i (Nat.lt_of_lt_of_le hi h.kp.1) (fun q => (h.o.1 i q.symm).elim hn (fun e => by omega))).trans (h.kp.2 i hi hn)⟩⟩
theorem TS.app (h : TS w0 w wi P vo va out all) (ho : U8.R 5 w1 w0.heap.size ok1 v1 out1) (hb : Below w0.heap.size w0 w1) (hg : wi.grownBy w1 vo.ownBlock) (hat : v1.ownBlock = vo.ownBlock ∨ ∃ b, v1.ownBlock = some b ∧ wi.heap.size ≤ b) : TS w0 w w1 P v1 va out1 all :=
  h.put ho (fun k q => hat.elim (fun e => .inl (by rw [← e, q])) (fun ⟨b, e, hl⟩ => .inr (by rw [e] at q; injection q with q; omega))) hb (Kept.of_grown hg (Kept.refl _ _) (fun k e => .inl e.symm))
theorem TS.names (h : TS w0 w wi P vo va out all) (ha : Kd.string.R 9 w1 w0.heap.size (fun k => some k = va.ownBlock ∨ wi.heap.size ≤ k) v1 all1) (hb : Below w0.heap.size w0 w1) (hk : Kept wi w1 (fun k => some k = va.ownBlock)) : TS w0 w w1 P vo v1 out all1 :=
  ⟨Kd.R_reok (d := U8) rfl (Kd.R_kept (Kd.R_tight (d := U8) rfl h.o) hk (fun k e q => h.ne k e q)) (fun k q => h.o.1 k q),
    Kd.R_reok (d := Kd.string) rfl ha (fun k q => (ha.1 k q).elim (fun e => h.a.1 k e.symm) (fun e => .inr (Nat.le_trans h.kp.1 e))), hb,
    ⟨Nat.le_trans h.kp.1 hk.1, fun i hi hn => (hk.2 i (Nat.lt_of_lt_of_le hi h.kp.1) (fun q => (h.a.1 i q.symm).elim hn (fun e => by omega))).trans (h.kp.2 i hi hn)⟩⟩
theorem TS.at_ (h : TS w0 w wi P vo va out all) : Kd.string.R 9 wi w0.heap.size (fun k => some k = va.ownBlock) va all := Kd.R_tight (d := Kd.string) rfl h.a
theorem TS.ot (h : TS w0 w wi P vo va out all) : U8.R 5 wi w0.heap.size (fun k => some k = vo.ownBlock) vo out := Kd.R_tight (d := U8) rfl h.o
end
/-! what it comes to -/
def rprops : List S55 → List Int → List ByteArray → Option (List Int × List ByteArray)
  | [], out, all => some (out, all)
  | p :: ps, out, all => if p.f1.length < 2147483648 then
      (vireoref26_names.f (all.length + 2) all p.f0).bind fun na => (vireoref26_Word.f 3).bind fun t3 => (bput out t3).bind fun o1 => (vireoref26_Word.f p.f1.length).bind fun tl => (bput o1 tl).bind fun o2 => (vireoref26_Word.f na.1).bind fun ta => (bput o2 ta).bind fun o3 => (bput o3 p.f1).bind fun o4 => (vireoref26_pad.f 5 o4).bind fun o5 => rprops ps o5 na.2
    else none
def rkids (F : Int → List ByteArray → Option (List Int × List ByteArray)) (i : Int) : List S50 → Int → List Int → List ByteArray → Option (List Int × List ByteArray)
  | [], j, out, all => some (out, all)
  | x :: xs, j, out, all => if x.f0 = i then (F j all).bind fun q => (bput out q.1).bind fun o => rkids F i xs (j + 1) o q.2 else rkids F i xs (j + 1) out all
def vireoref26_tree.f : Nat → List (S50) → Int → List ByteArray → Option (List Int × List ByteArray)
  | 0, _, _, _ => none
  | k + 1, l, i, all => if 0 ≤ i ∧ i < (l.length : Int) ∧ l.length < 65536 ∧ (rd_T50 l i).f1.size < 2147483648 ∧ (rd_T50 l i).f2.length < 65536 then
      (vireoref26_Word.f 1).bind fun t1 => (bput t1 (bytesOf (rd_T50 l i).f1)).bind fun o1 => (bput o1 [0]).bind fun o2 => (vireoref26_pad.f 5 o2).bind fun o3 => (rprops (rd_T50 l i).f2 o3 all).bind fun q =>
        (rkids (fun j a => vireoref26_tree.f k l j a) i (l.drop (i.toNat + 1)) (i + 1) q.1 q.2).bind fun z => (vireoref26_Word.f 2).bind fun t2 => (bput z.1 t2).bind fun o => some (o, z.2)
    else none
theorem rkids_mono {F G : Int → List ByteArray → Option (List Int × List ByteArray)} (h : ∀ j a, LeO (F j a) (G j a)) (i : Int) : ∀ xs j out all, LeO (rkids F i xs j out all) (rkids G i xs j out all)
  | [], j, out, all => LeO.refl _
  | x :: xs, j, out, all => by
    simp only [rkids]
    exact LeO.ite (LeO.bind (h j all) (fun q => LeO.bind (LeO.refl _) (fun o => rkids_mono h i xs (j + 1) o q.2))) (rkids_mono h i xs (j + 1) out all)
theorem vireoref26_tree.mono_l : ∀ k l i all, LeO (vireoref26_tree.f k l i all) (vireoref26_tree.f (k + 1) l i all)
  | 0, l, i, all => fun r h => by cases h
  | k + 1, l, i, all => by
    simp only [vireoref26_tree.f]
    refine LeO.ite ?_ (LeO.refl _)
    exact LeO.bind (LeO.refl _) (fun _ => LeO.bind (LeO.refl _) (fun _ => LeO.bind (LeO.refl _) (fun _ => LeO.bind (LeO.refl _) (fun _ => LeO.bind (LeO.refl _) (fun q => LeO.bind (rkids_mono (fun j a => by have := vireoref26_tree.mono_l k l j a; simpa only [vireoref26_tree.f] using this) _ _ _ _ _) (fun _ => LeO.refl _))))))
theorem vireoref26_tree.mono : ∀ a0 a1 a2 k, LeO (vireoref26_tree.f k a0 a1 a2) (vireoref26_tree.f (k + 1) a0 a1 a2) := fun a0 a1 a2 k => vireoref26_tree.mono_l k a0 a1 a2
theorem tree_open {k : Nat} {l : List S50} {i : Int} {all all' : List ByteArray} {r : List Int} (h : vireoref26_tree.f (k + 1) l i all = some (r, all')) :
    (0 ≤ i ∧ i < (l.length : Int) ∧ l.length < 65536 ∧ (rd_T50 l i).f1.size < 2147483648 ∧ (rd_T50 l i).f2.length < 65536) ∧ ∃ t1 o1 o2 o3 q1 q2 z1 t2, vireoref26_Word.f 1 = some t1 ∧ bput t1 (bytesOf (rd_T50 l i).f1) = some o1 ∧ bput o1 [0] = some o2 ∧ vireoref26_pad.f 5 o2 = some o3 ∧ rprops (rd_T50 l i).f2 o3 all = some (q1, q2) ∧
      rkids (fun j a => vireoref26_tree.f k l j a) i (l.drop (i.toNat + 1)) (i + 1) q1 q2 = some (z1, all') ∧ vireoref26_Word.f 2 = some t2 ∧ bput z1 t2 = some r := by
  simp only [vireoref26_tree.f] at h
  split at h
  · rename_i hg
    obtain ⟨t1, e1, h⟩ := Option.bind_eq_some_iff.mp h
    obtain ⟨o1, e2, h⟩ := Option.bind_eq_some_iff.mp h
    obtain ⟨o2, e3, h⟩ := Option.bind_eq_some_iff.mp h
    obtain ⟨o3, e4, h⟩ := Option.bind_eq_some_iff.mp h
    obtain ⟨⟨q1, q2⟩, e5, h⟩ := Option.bind_eq_some_iff.mp h
    obtain ⟨⟨z1, z2⟩, e6, h⟩ := Option.bind_eq_some_iff.mp h
    obtain ⟨t2, e7, h⟩ := Option.bind_eq_some_iff.mp h
    obtain ⟨o, e8, h⟩ := Option.bind_eq_some_iff.mp h
    obtain ⟨rfl, rfl⟩ := Prod.mk.inj (Option.some.inj h)
    exact ⟨hg, t1, o1, o2, o3, q1, q2, z1, t2, e1, e2, e3, e4, e5, e6, e7, e8⟩
  · cases h
theorem rprops_open {p : S55} {ps : List S55} {out r : List Int} {all all' : List ByteArray} (h : rprops (p :: ps) out all = some (r, all')) :
    p.f1.length < 2147483648 ∧ ∃ n all1 t3 o1 tl o2 ta o3 o4 o5, vireoref26_names.f (all.length + 2) all p.f0 = some (n, all1) ∧ vireoref26_Word.f 3 = some t3 ∧ bput out t3 = some o1 ∧ vireoref26_Word.f p.f1.length = some tl ∧ bput o1 tl = some o2 ∧ vireoref26_Word.f n = some ta ∧ bput o2 ta = some o3 ∧ bput o3 p.f1 = some o4 ∧ vireoref26_pad.f 5 o4 = some o5 ∧ rprops ps o5 all1 = some (r, all') := by
  simp only [rprops] at h
  split at h
  · rename_i hg
    obtain ⟨⟨n, all1⟩, e1, h⟩ := Option.bind_eq_some_iff.mp h
    obtain ⟨t3, e2, h⟩ := Option.bind_eq_some_iff.mp h
    obtain ⟨o1, e3, h⟩ := Option.bind_eq_some_iff.mp h
    obtain ⟨tl, e4, h⟩ := Option.bind_eq_some_iff.mp h
    obtain ⟨o2, e5, h⟩ := Option.bind_eq_some_iff.mp h
    obtain ⟨ta, e6, h⟩ := Option.bind_eq_some_iff.mp h
    obtain ⟨o3, e7, h⟩ := Option.bind_eq_some_iff.mp h
    obtain ⟨o4, e8, h⟩ := Option.bind_eq_some_iff.mp h
    obtain ⟨o5, e9, h⟩ := Option.bind_eq_some_iff.mp h
    exact ⟨hg, n, all1, t3, o1, tl, o2, ta, o3, o4, o5, e1, e2, e3, e4, e5, e6, e7, e8, e9, h⟩
  · cases h
end Go.Proofs.Ytmhlellhfepkkaa.PAl
