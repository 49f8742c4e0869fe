/- Regions, in whatever order, told slot by slot: what each slot holds (a relation that laying blocks keeps). For fdt.Machine. -/
import Derived.Test.YtmhlellhfepkkaaHslots3
import Derived.ArgAppend
namespace Go.Proofs.Ytmhlellhfepkkaa.H
open Go.RowKit Go.Proofs.YtmhlellhfepkkaaW.PrintWords Go.Proofs.YtmhlellhfepkkaaW.PrintLast Go.Proofs.YtmhlellhfepkkaaW.PrintMore Go.Proofs.Ytmhlellhfepkkaa.PAl
set_option linter.unusedVariables false
set_option linter.unusedSimpArgs false
theorem KpN.below {w w' : World} (h : KpN w w') : Below w.heap.size w w' := Kp.below h (fun _ _ h => h.elim) (Nat.le_refl _)
theorem kpn_of {w w' : World} (h : Below w.heap.size w w') : KpN w w' := Kp.of_below h _
/-! what a view may lead to: all but fresh boxes that are still to be filled -/
def z32c : Array Value := #[.string ⟨#[]⟩, .slice none 0 0, .slice none 0 0]
def Zb (o : Option Obj) : Prop := o = some (.cells z32c 32 (0, 0))
def okW (w : World) (k : Nat) : Prop := k < w.heap.size ∧ ¬ Zb w.heap[k]?
/-- From w to w' nothing is turned that a view may lead to. -/
def Mv (w w' : World) : Prop := w.heap.size ≤ w'.heap.size ∧ ∀ k, okW w k → w'.heap[k]? = w.heap[k]?
theorem Mv.ok {w w' : World} (h : Mv w w') {k : Nat} (hk : okW w k) : okW w' k := ⟨Nat.lt_of_lt_of_le hk.1 h.1, by rw [h.2 k hk]; exact hk.2⟩
theorem KpN.mv {w w' : World} (h : KpN w w') : Mv w w' := ⟨h.size, fun k hk => h.block k hk.1 (fun h => h)⟩
theorem Mv.store {w w' : World} {g : Nat} (h : Kp w w' (fun i => i = g)) (hg : Zb w.heap[g]?) : Mv w w' := ⟨h.size, fun k hk => h.block k hk.1 (fun e => hk.2 (by rw [e]; exact hg))⟩
section
variable {α : Type} {d : Kd α} {w w' : World}
theorem FK_mv {x : α} {c : List Value} (h : Kd.FK d w (okW w) x c) (m : Mv w w') : Kd.FK d w' (okW w') x c := Kd.FK_mono (Kd.FK_step h (fun k hk _ => m.2 k hk)) (fun k hk => m.ok hk)
theorem F_mv {A : Option Addr} {n : Nat} {l : List α} (h : Kd.F d w (okW w) A n l) (m : Mv w w') : Kd.F d w' (okW w') A n l := Kd.F_mono (Kd.F_step h (fun k hk _ => m.2 k hk)) (fun k hk => m.ok hk)
end
/-- A row that is read: the slice, with whatever room. -/
def Sl {α : Type} (d : Kd α) (w : World) (v : Value) (l : List α) : Prop := ∃ A c, v = .slice A l.length c ∧ l.length ≤ c ∧ Kd.F d w (okW w) A l.length l
/-- .. with no room behind it. -/
def SlF {α : Type} (d : Kd α) (w : World) (v : Value) (l : List α) : Prop := ∃ b, v = .slice (some b) l.length l.length ∧ Kd.F d w (okW w) (some b) l.length l
section
variable {α : Type} {d : Kd α} {w w' : World} {v : Value} {l : List α}
theorem Sl.mv (h : Sl d w v l) (k : Mv w w') : Sl d w' v l := by
  obtain ⟨A, c, h1, h2, h3⟩ := h
  exact ⟨A, c, h1, h2, F_mv h3 k⟩
theorem SlF.mv (h : SlF d w v l) (k : Mv w w') : SlF d w' v l := by
  obtain ⟨b, h1, h2⟩ := h
  exact ⟨b, h1, F_mv h2 k⟩
theorem Sl.kp (h : Sl d w v l) (k : KpN w w') : Sl d w' v l := h.mv k.mv
theorem SlF.kp (h : SlF d w v l) (k : KpN w w') : SlF d w' v l := h.mv k.mv
theorem SlF.sl (h : SlF d w v l) : Sl d w v l := by
  obtain ⟨b, h1, h2⟩ := h
  exact ⟨_, _, h1, Nat.le_refl _, h2⟩
theorem Sl.nil : Sl d w (.slice none 0 0) [] := ⟨none, 0, rfl, Nat.le_refl _, Kd.F_nil d w _⟩
theorem own_okW {e base size n : Nat} {cs : List Value} (h : w.ownsRow base e size v n cs) (he : e ≠ 32) {k : Nat} (hk : v.ownBlock = some k) : okW w k := by
  obtain ⟨cells, hc⟩ := own_typed h k hk
  refine ⟨(Array.getElem?_eq_some_iff.1 hc).1, fun z => ?_⟩
  unfold Zb at z
  rw [hc] at z
  injection z with z
  injection z with z1 z2 z3
  exact he z2
theorem Sl.own {e base n : Nat} {cs : List Value} (h : w.ownsRow base e d.sz v n cs) (he : e ≠ 32) (hR : Reps (fun x c => Kd.FK d w (okW w) x c) d.sz l cs) (hn : l.length = n) : Sl d w v l := by
  subst hn
  have key : ∃ A c, v = .slice A l.length c ∧ l.length ≤ c := by
    rcases h.2 with ⟨hv2, h0⟩ | ⟨g, cap, cur, hv2, _, _, hc, _⟩
    · exact ⟨none, 0, by rw [hv2, h0], by omega⟩
    · exact ⟨_, _, hv2, hc⟩
  obtain ⟨A, c, hv, hc⟩ := key
  refine ⟨A, c, hv, hc, fun W' hW => ?_⟩
  have hb : W'.ownsRow base e d.sz v l.length cs := own_move h (fun k hk => by have := own_okW h he hk; exact hW k this this.1)
  obtain ⟨A', c', hv', hr⟩ := own_reads_row hb (hR.imp_ fun x c hx => hx W' hW) rfl
  rw [hv] at hv'
  injection hv' with e1 e2 e3
  rw [e1]; exact hr
theorem Sl.ofR {e base : Nat} {ok : Nat → Prop} (hE : d.E = []) (he : e ≠ 32) (h : d.R e w base ok v l) : Sl d w v l := by
  obtain ⟨h0, inner, ho, hr⟩ := Kd.R_tight hE h
  refine Sl.own ho he (hr.imp_ fun p c hp => Kd.FK_mono (Kd.FK_of_M hp) (fun k hk => ?_)) rfl
  exact absurd hk.1 hk.2
/-- A literal's block. -/
theorem SlF.lit {e : Nat} {inner : List Value} (hrep : Reps (fun x c => Kd.FK d w (okW w) x c) d.sz l inner) (hm : l.length ≤ 9223372036854775807) (hz : e ≠ 32 ∨ inner.toArray ≠ z32c) : SlF d (w.alloc (.cells inner.toArray e)) (.slice (some ⟨w.heap.size, 0, none⟩) l.length l.length) l := by
  have hk : KpN w (w.alloc (.cells inner.toArray e)) := (Kp.refl _ _).alloc _
  have hnew := heap_alloc_new w (.cells inner.toArray e)
  have hok : okW (w.alloc (.cells inner.toArray e)) w.heap.size := by
    refine ⟨by simp, fun z => ?_⟩
    unfold Zb at z
    rw [hnew] at z
    injection z with z
    injection z with z1 z2 z3
    rcases hz with h | h
    · exact h z2
    · exact h z1
  refine ⟨_, rfl, fun W' hW => ⟨rfl, hm, fun hp => ⟨_, rfl, fun j p hj => ?_⟩⟩⟩
  have hK : d.K W' p ((inner.drop (j * d.sz)).take d.sz) := FK_mv (hrep.2 j p hj) hk.mv W' hW
  have hlen : ((inner.drop (j * d.sz)).take d.sz).length = d.sz := d.K_len hK
  refine ⟨(inner.drop (j * d.sz)).take d.sz, hlen, hK, fun i u hu => ?_⟩
  have hi : i < d.sz := by have := (List.getElem?_eq_some_iff.1 hu).1; omega
  rw [List.getElem?_take, if_pos hi, List.getElem?_drop] at hu
  have hb : W'.heap[w.heap.size]? = some (.cells inner.toArray e) := (hW _ hok hok.1).trans hnew
  rw [add_plain, blk_cell hb]
  simpa using hu
end
/-- What a slot holds. -/
structure Stb where
  p : Value → World → Prop
  st : ∀ v w w', p v w → KpN w w' → p v w'
def Stb.val (u : Value) : Stb := ⟨fun v _ => v = u, fun _ _ _ h _ => h⟩
def Stb.sl {α : Type} (d : Kd α) (l : List α) : Stb := ⟨fun v w => Sl d w v l, fun _ _ _ h k => h.kp k⟩
def Stb.slF {α : Type} (d : Kd α) (l : List α) : Stb := ⟨fun v w => SlF d w v l, fun _ _ _ h k => h.kp k⟩
def Stb.prop (x : S74) : Stb := ⟨fun v w => ∃ u, v = .agg #[.string x.f0, u] ∧ Sl (Kd.int .u8) w u x.f1, fun _ _ _ h k => by obtain ⟨u, h1, h2⟩ := h; exact ⟨u, h1, h2.kp k⟩⟩
def NodeV (w : World) (v : Value) (x : S32) : Prop := ∃ u1 u2, v = .agg #[.string x.f0, u1, u2] ∧ Sl k74 w u1 x.f1 ∧ Sl k32 w u2 x.f2
theorem NodeV.kp {w w' : World} {v : Value} {x : S32} (h : NodeV w v x) (k : KpN w w') : NodeV w' v x := by obtain ⟨u1, u2, h1, h2, h3⟩ := h; exact ⟨u1, u2, h1, h2.kp k, h3.kp k⟩
def Stb.node (x : S32) : Stb := ⟨fun v w => NodeV w v x, fun _ _ _ h k => h.kp k⟩
def Stb.box (b : Nat) : Stb := ⟨fun v w => ∃ g, v = .pointer (some ⟨g, 0, none⟩) ∧ b ≤ g ∧ w.heap[g]? = some (.cells z32c 32 (0, 0)), fun _ _ _ h k => by obtain ⟨g, h1, h2, h3⟩ := h; exact ⟨g, h1, h2, (k.block g (blk_lt h3) (fun h => h)).trans h3⟩⟩
def Stb.any : Stb := ⟨fun _ _ => True, fun _ _ _ h _ => h⟩
/-- A part's block. -/
def NodeB (w : World) (g : Nat) (x : S32) : Prop := ∃ u1 u2, w.heap[g]? = some (.cells #[.string x.f0, u1, u2] 32 (0, 0)) ∧ Sl k74 w u1 x.f1 ∧ Sl k32 w u2 x.f2
theorem NodeB.kp {w w' : World} {g : Nat} {x : S32} (h : NodeB w g x) (hk : KpN w w') : NodeB w' g x := by
  obtain ⟨u1, u2, h1, h2, h3⟩ := h
  exact ⟨u1, u2, (hk.block g (blk_lt h1) (fun h => h)).trans h1, h2.kp hk, h3.kp hk⟩
theorem Sl.one {α : Type} {d : Kd α} {w : World} {v : Value} {l : List α} (h : Sl d w v l) : v.oneCell' = true := by obtain ⟨A, c, rfl, _, _⟩ := h; rfl
theorem one3 (s : ByteArray) {u1 u2 : Value} (h1 : u1.oneCell' = true) (h2 : u2.oneCell' = true) : (#[.string s, u1, u2] : Array Value).all (·.oneCell') = true := by
  rw [show (#[.string s, u1, u2] : Array Value) = [.string s, u1, u2].toArray from rfl, List.all_toArray]
  simp only [List.all_cons, List.all_nil, h1, h2]
  rfl
theorem ag_old {D : List Nat} {a0 a : Act} (hA : Ag D.length (fun i => D.getD i 0) a0 a) {s : Nat} (hs : s ∉ D) : a.tmps.getD s undef = a0.tmps.getD s undef :=
  hA.old s fun i hi e => hs (by rw [← e, List.getD_eq_getElem?_getD, List.getElem?_eq_getElem hi]; exact List.getElem_mem hi)
theorem at_get {ops : Array Oper} {i : Nat} {o : Oper} (h : ops[i]? = some o) : ops.getD i default = o := by rw [Array.getD_eq_getD_getElem?, h]; rfl
section
variable {P : Program} {ops : Array Oper}
def upTo (n m : Nat) : Array Bool := (Array.range m).map fun i => decide (i < n)
/-- What is asked of a region's form. -/
def formR (ops : Array Oper) (D : List Nat) (m : Nat) : Bool :=
  slotsR ops D.length (upTo D.length ops.size) && decide (D.length + 1 = ops.size) && decide (Region.ready .any ops (upTo D.length ops.size) = [D.length]) && decide (Region.ready .any ops ((upTo D.length ops.size).setIfInBounds D.length true) = [])
    && decide D.Nodup && D.all (fun t => decide (t < m)) && (List.range D.length).all fun i => match ops[i]? with | some o => decide (o.dst = some (D.getD i 0)) | none => false
theorem nodup_inj {D : List Nat} (h : D.Nodup) : ∀ i j, i < D.length → j < D.length → D.getD i 0 = D.getD j 0 → i = j := fun i j hi hj e => by
  rw [List.getD_eq_getElem?_getD, List.getD_eq_getElem?_getD, List.getElem?_eq_getElem hi, List.getElem?_eq_getElem hj, Option.getD_some, Option.getD_some] at e
  rcases Nat.lt_trichotomy i j with q | q | q
  · exact absurd e (List.pairwise_iff_getElem.1 h i j hi hj q)
  · exact q
  · exact absurd e.symm (List.pairwise_iff_getElem.1 h j i hj hi q)
/-- A region, drawn or not: its head told by L, then its last operation. -/
theorem wp_slots {id : Nat} {Q : Exit → Act → World → Prop} {a0 : Act} {w : World} (dr : Bool) (D : List Nat) (L : List Stb) (last : Oper) (hm : P.follows .mixedOrders = true) (hF : formR ops D a0.tmps.size = true) (hl : ops[D.length]? = some last) (hlg : last.guard = none)
    (hstep : ∀ i o, i < D.length → ops[i]? = some o → ∀ a w', KpN w w' → Ag D.length (fun i => D.getD i 0) a0 a → (∀ j, j < D.length → Region.waitsFor .any ops i j = true → (L.getD j Stb.any).p (a.tmps.getD (D.getD j 0) undef) w') → stepS P ops Q o (fun v w'' => KpN w' w'' ∧ (L.getD i Stb.any).p v w'') a w')
    (hend : ∀ a w', KpN w w' → a.defers = a0.defers → a.tmps.size = a0.tmps.size → (∀ s, s ∉ D → a.tmps.getD s undef = a0.tmps.getD s undef) → (∀ i, i < D.length → (L.getD i Stb.any).p (a.tmps.getD (D.getD i 0) undef) w') → last.wp P a w' (fun a w => Q .normal a w) Q) : (Code.region id ops dr).wp P Q a0 w := by
  unfold formR at hF
  simp only [Bool.and_eq_true, decide_eq_true_eq] at hF
  obtain ⟨⟨⟨⟨⟨⟨f1, f2⟩, f3⟩, f4⟩, f5⟩, f6⟩, f7⟩ := hF
  have hdst : ∀ i o, i < D.length → ops[i]? = some o → o.dst = some (D.getD i 0) := fun i o hi ho => by
    have := List.all_eq_true.1 f7 i (List.mem_range.2 hi)
    rw [ho] at this
    simpa using this
  have hd : ∀ i, i < D.length → D.getD i 0 < a0.tmps.size := fun i hi => by
    have := List.all_eq_true.1 f6 (D.getD i 0) (by rw [List.getD_eq_getElem?_getD, List.getElem?_eq_getElem hi]; exact List.getElem_mem hi)
    simpa using this
  have hinj := nodup_inj f5
  have old : ∀ (a : Act), Ag D.length (fun i => D.getD i 0) a0 a → ∀ s, s ∉ D → a.tmps.getD s undef = a0.tmps.getD s undef := fun a hA s hs => hA.old s fun i hi e => hs (by rw [← e, List.getD_eq_getElem?_getD, List.getElem?_eq_getElem hi]; exact List.getElem_mem hi)
  cases dr with
  | true =>
    refine wp_region_slots D.length 1 (upTo D.length ops.size) (fun i => D.getD i 0) (fun i v w => (L.getD i Stb.any).p v w) (fun _ => false) hm f1 f2 hdst hd hinj (fun i v w w' _ h k => (L.getD i Stb.any).st v w w' h k) ?_ ?_
    · intro i o hi ho a w' hk hA hdep
      have h := hstep i o hi ho a w' hk hA hdep
      unfold stepS at h ⊢
      split
      · next hw => rw [if_pos hw] at h; exact Oper.wp_mono (fun a' w'' h => by obtain ⟨v, e, h1, h2⟩ := h; exact ⟨v, e, h1, h2, fun h => by cases h⟩) h
      · next hw => rw [if_neg hw] at h; exact ⟨h.1, h.2, fun h => by cases h⟩
    · intro v w' hk hR _
      refine any_1 f3 hl hlg ?_
      have hAg : Ag D.length (fun i => D.getD i 0) a0 (putN a0 (fun i => D.getD i 0) v D.length) := by
        have key : ∀ k, k ≤ D.length → Ag D.length (fun i => D.getD i 0) a0 (putN a0 (fun i => D.getD i 0) v k) := by
          intro k
          induction k with
          | zero => intro _; exact Ag.refl _ _ _
          | succ k ih => intro hk; exact (ih (by omega)).put (i := k) (by omega) _
        exact key _ (Nat.le_refl _)
      have hget : ∀ k, k ≤ D.length → ∀ i, i < k → (putN a0 (fun i => D.getD i 0) v k).tmps.getD (D.getD i 0) undef = v i := by
        intro k
        induction k with
        | zero => intro _ i hi; omega
        | succ k ih =>
          intro hk i hi
          unfold putN
          by_cases e : i = k
          · subst e; exact put_same _ _ _ (by rw [putN_size]; exact hd i (by omega))
          · rw [put_other _ _ _ _ fun q => e (hinj i k (by omega) (by omega) q.symm)]
            exact ih (by omega) i (by omega)
      refine Oper.wp_mono (fun a w h => ?_) (hend _ w' hk hAg.defers hAg.size (old _ hAg) (fun i hi => by rw [hget _ (Nat.le_refl _) i hi]; exact hR i hi))
      exact wpAny_done f4 h _
  | false =>
    refine wp_region_list ?_
    have hlen : ops.toList.length = D.length + 1 := by rw [Array.length_toList]; exact f2.symm
    have hfw : fwdR ops D.length = true := by
      unfold slotsR at f1
      simp only [Bool.and_eq_true] at f1
      exact f1.1.2
    have key : ∀ (m k : Nat), k + m = D.length → ∀ a w', KpN w w' → Ag D.length (fun i => D.getD i 0) a0 a → (∀ i, i < k → (L.getD i Stb.any).p (a.tmps.getD (D.getD i 0) undef) w') → wpList P ops Q (ops.toList.drop k) a w' := by
      intro m
      induction m with
      | zero =>
        intro k hk a w' hK hA hR
        have : k = D.length := by omega
        subst this
        have e : ops.toList.drop D.length = [last] := by
          have h1 : ops.toList[D.length]? = some last := by rw [Array.getElem?_toList]; exact hl
          obtain ⟨hlt, h2⟩ := List.getElem?_eq_some_iff.1 h1
          rw [List.drop_eq_getElem_cons hlt, h2, List.drop_of_length_le (by omega)]
        rw [e]
        unfold wpList
        rw [if_pos (wanted_none hlg _)]
        exact .inl (Oper.wp_mono (fun a w h => h) (hend a w' hK hA.defers hA.size (old a hA) hR))
      | succ m ih =>
        intro k hk a w' hK hA hR
        have hkl : k < D.length := by omega
        have hlt : k < ops.toList.length := by omega
        have ho : ops[k]? = some ops.toList[k] := by rw [← Array.getElem?_toList]; exact List.getElem?_eq_getElem hlt
        rw [List.drop_eq_getElem_cons hlt]
        have hst := hstep k _ hkl ho a w' hK hA (fun j hj hw => by
          have h1 := List.all_eq_true.1 hfw k (List.mem_range.2 hkl)
          rw [ho] at h1
          obtain ⟨o', ho', e, he, hb, hon⟩ := Region.waitsFor_spec hw
          have : o' = ops.toList[k] := Option.some.inj (ho'.symm.trans ho)
          subst this
          have h2 := Array.all_eq_true'.1 h1 e he
          rw [hb] at h2
          have h3 : e.on < k := by simpa using h2
          exact hR j (by omega))
        have hdk := hdst k _ hkl ho
        have next : ∀ v w'', KpN w' w'' → (L.getD k Stb.any).p v w'' → wpList P ops Q (ops.toList.drop (k + 1)) (a.put ops.toList[k].dst v) w'' := fun v w'' hk2 hr => by
          rw [hdk]
          refine ih (k + 1) (by omega) _ w'' (hK.trans hk2) (hA.put hkl v) (fun i hi => ?_)
          by_cases e : i = k
          · subst e; rw [put_same _ _ _ (by rw [hA.size]; exact hd i (by omega))]; exact hr
          · rw [put_other _ _ _ _ fun q => e (hinj i k (by omega) (by omega) q.symm)]
            exact (L.getD i Stb.any).st _ _ _ (hR i (by omega)) hk2
        unfold stepS at hst
        unfold wpList
        by_cases hw : Region.wanted ops.toList[k] (yielded ops a.tmps) = true
        · rw [if_pos hw] at hst ⊢
          refine .inl (Oper.wp_mono (fun a' w'' h => ?_) hst)
          obtain ⟨v, rfl, hk2, hr⟩ := h
          exact next v w'' hk2 hr
        · rw [if_neg hw] at hst ⊢
          exact next undef w' hst.1 hst.2
    exact key D.length 0 (by omega) a0 w (Kp.refl _ _) (Ag.refl _ _ _) (fun i hi => by omega)
/-! steps -/
variable {Q : Exit → Act → World → Prop} {o : Oper} {a : Act} {w : World} {α : Type}
/-- The cells of a row. -/
theorem row_cells {d : Kd α} {ok : Nat → Prop} {b : Addr} : ∀ (l : List α), Kd.F d w ok (some b) l.length l → ∃ cs, Reps (fun x c => Kd.FK d w ok x c) d.sz l cs ∧ ∀ j u, cs[j]? = some u → w.cell? (b.add j) = some u := by
  intro l hF
  have h := Kd.F_rows hF
  have key : ∀ (m : Nat), m ≤ l.length → ∃ cs, Reps (fun x c => Kd.FK d w ok x c) d.sz (l.take m) cs ∧ ∀ j u, cs[j]? = some u → w.cell? (b.add j) = some u := by
    intro m
    induction m with
    | zero => intro _; exact ⟨[], Reps.none _ _, fun j u h => by cases h⟩
    | succ m ih =>
      intro hm
      obtain ⟨cs, h1, h2⟩ := ih (by omega)
      obtain ⟨ad, e, hc⟩ := h.2.2 (by omega)
      injection e with e
      subst e
      have hlt : m < l.length := by omega
      obtain ⟨c, c1, c2, c3⟩ := hc m _ (List.getElem?_eq_getElem hlt)
      have hcl : cs.length = m * d.sz := by rw [h1.1, List.length_take, Nat.min_eq_left (by omega)]
      refine ⟨cs ++ c, by rw [List.take_succ_eq_append_getElem hlt]; exact h1.snoc c2 c1, fun j u hj => ?_⟩
      rcases Nat.lt_or_ge j cs.length with q | q
      · rw [List.getElem?_append_left q] at hj; exact h2 j u hj
      · rw [List.getElem?_append_right q] at hj
        have := c3 _ u hj
        rwa [← hcl, Nat.add_sub_cancel' q] at this
  have := key l.length (Nat.le_refl _)
  rwa [List.take_length] at this
theorem sS_app (hg : o.guard = none) (d : Kd α) {xs ys : List α} {s x : Operand} {t : TypeId} {R : Stb} (ho : o.op = .call { callee := .builtin .append, args := #[s, x], argTypes := #[t, t] })
    (e : TypeId) (z : Value) (bytes : Nat) (ht : P.underlying t = some (.slice e)) (hinfo : (P.info? e).map (fun i => (i.zero, i.size, i.bytes)) = some (some z, d.sz, bytes)) (hzs : z.cells.size = d.sz) (hsz : 0 < d.sz) (hen : e ≠ 32)
    (v1 v2 : Value) (h1 : a.eval s = v1) (h2 : a.eval x = v2) (hx : SlF d w v1 xs) (hy : SlF d w v2 ys) (hpos : 0 < ys.length) (hsmall : xs.length + ys.length ≤ 1000) (hb1 : bytes ≤ 1000) (hR : ∀ v w', Sl d w' v (xs ++ ys) → R.p v w') : stepS P ops Q o (fun v w'' => KpN w w'' ∧ R.p v w'') a w := by
  obtain ⟨i, hi, hii⟩ := Option.map_eq_some_iff.1 hinfo
  obtain ⟨hz, hsize, hby⟩ : i.zero = some z ∧ i.size = d.sz ∧ i.bytes = bytes := by injection hii with q1 q2; injection q2 with q2 q3; exact ⟨q1, q2, q3⟩
  obtain ⟨b1, rfl, c1⟩ := hx
  obtain ⟨b2, rfl, c2⟩ := hy
  obtain ⟨cs1, r1, q1⟩ := row_cells xs c1
  obtain ⟨cs2, r2, q2⟩ := row_cells ys c2
  obtain ⟨v', w', hrun, hown, hgr⟩ := run_append_arg_grows (P := P) w t o.type e i z d.sz bytes ht hi hz hsize hby hzs hsz b1 xs.length xs.length cs1 r1.1 q1 b2 ys.length ys.length cs2 r2.1 q2 (by omega) (by simp only [maxLen]; omega) (by
    have : (xs.length + ys.length) * bytes ≤ 1000 * 1000 := Nat.mul_le_mul hsmall hb1
    omega)
  have hk : KpN w w' := ⟨hgr.os, hgr.tape, hgr.output, hgr.size, fun k hk _ => hgr.block k hk (by simp)⟩
  have hrep := Kd.reps_append r1 r2
  refine sS_in (wanted_none hg _) ?_
  unfold Oper.wp execOp
  simp only [ho, resolve, invoke, builtin, Sem.run_bind, Sem.run_pure, Result.andThen_ok, List.map_toArray, List.map_cons, List.map_nil, h1, h2, hrun]
  exact ⟨v', rfl, hk, hR _ _ (Sl.own hown hen (hrep.imp_ fun p c hp => FK_mv hp hk.mv) (by rw [List.length_append]))⟩
end
end Go.Proofs.Ytmhlellhfepkkaa.H
