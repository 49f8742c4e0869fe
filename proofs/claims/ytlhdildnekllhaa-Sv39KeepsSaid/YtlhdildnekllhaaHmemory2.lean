/- The statements' memory (vireolaw10.memory), walked by hand: where it is tried. -/
import Derived.Test.YtlhdildnekllhaaHmemory
import Derived.Test.YtlhdildnekllhaaTc
import Derived.Test.YtlhdildnekllhaaHrefmem
namespace Go.Proofs.Ytlhdildnekllhaa.H
open Go.RowKit Go.Proofs.YtlhdildnekllhaaW.PrintWords Go.Proofs.YtlhdildnekllhaaW.PrintLast Go.Proofs.Ytlhdildnekllhaa.PAl Go.Proofs.Ytlhdildnekllhaa.Pure Go.Proofs.Ytlhdildnekllhaa.Vw
set_option linter.unusedVariables false
set_option linter.unusedSimpArgs false
abbrev PW := S72
def putOk (xs : List PW) : Prop := ∀ y ∈ xs, (0 ≤ y.f0 ∧ y.f0 < 18446744073709551616) ∧ (0 ≤ y.f1 ∧ y.f1 < 18446744073709551616)
theorem putOk_at {xs : List PW} (h : putOk xs) (k : Nat) : ∃ a x : Nat, xs.getD k z72 = ⟨(a : Int), (x : Int)⟩ ∧ U a ∧ U x := by
  by_cases hk : k < xs.length
  · rw [List.getD_eq_getElem?_getD, List.getElem?_eq_getElem hk]
    obtain ⟨⟨h0, h1⟩, h2, h3⟩ := h xs[k] (List.getElem_mem hk)
    refine ⟨xs[k].f0.toNat, xs[k].f1.toNat, ?_, ⟨by omega⟩, ⟨by omega⟩⟩
    show xs[k] = _
    rw [Int.toNat_of_nonneg h0, Int.toNat_of_nonneg h2]
  · rw [List.getD_eq_getElem?_getD, List.getElem?_eq_none (by omega)]
    exact ⟨0, 0, rfl, U.num, U.num⟩
def stepM (M : Nat → Nat) (a x : Nat) : Nat → Nat := if hasB 32768 a 8 = true then stN M (a - 2147483648) x 8 else M
def stepL (l : List BY) (a x : Nat) : List BY := if hasB 32768 a 8 = true then stL l a x else l
def memM (xs : List PW) : Nat → Nat → Nat
  | 0 => fun _ => 0
  | k + 1 => stepM (memM xs k) (xs.getD k z72).f0.toNat (xs.getD k z72).f1.toNat
def memL (xs : List PW) : Nat → List BY
  | 0 => []
  | k + 1 => stepL (memL xs k) (xs.getD k z72).f0.toNat (xs.getD k z72).f1.toNat
theorem memL_len (xs : List PW) : ∀ k, (memL xs k).length ≤ 8 * k
  | 0 => by simp [memL]
  | k + 1 => by
    have h := memL_len xs k
    unfold memL stepL
    split
    · unfold stL; rw [List.length_append, byL_length]; omega
    · omega
theorem store_any (g B n size : Nat) (pg : Nat → Option Nat) (M : Nat → Nat) (a x : Nat) (w : World) (hI : Rm w g B n size pg M) (ha : U a) (hs : size ≤ 268435456) (hn : n ≤ 4000) (hx : U x) :
    Calls Try.prog 30 #[.pointer (some ⟨g, 0, none⟩), .int .u64 (a : Int), .int .i64 8, .int .u64 (x : Int)] w fun e w' => e = .returned (.bool (hasB size a 8)) ∧ stPost g B (n + 8) size pg (if hasB size a 8 = true then stN M (a - 2147483648) x 8 else M) w w' := by
  by_cases h : hasB size a 8 = true
  · have hb : 2147483648 ≤ a ∧ a + 8 ≤ 2147483648 + size := of_decide_eq_true h
    obtain ⟨off, rfl⟩ : ∃ off, a = 2147483648 + off := ⟨a - 2147483648, by omega⟩
    rw [h, if_pos rfl, show 2147483648 + off - 2147483648 = off by omega]
    exact store_yes g B n size pg M off x w hI (by omega) hs hn hx
  · have h' : hasB size a 8 = false := by simpa using h
    rw [h', if_neg (by decide)]
    exact (store_no g B n size pg M a x w hI ha ⟨by omega⟩ h').mono fun e w' q => ⟨q.1, by
      obtain ⟨m, hm⟩ := q.2
      rw [hm]
      exact ⟨pg, (hI.drewN m).mono (by omega), (Kp.refl _ _).drewN m, memTo.refl _ _ _ _⟩⟩
theorem map_blk {w : World} {B n : Nat} {k : TypeId} {P : Program} {pg : Nat → Option Nat} (h : PMap P k w B n pg) (cells : Array Value) (q : TypeId) (p : Nat × Nat) : w.heap[B]? ≠ some (.cells cells q p) := by
  obtain ⟨D, ⟨es, clock, hb, _⟩, _⟩ := h.ex
  rw [hb]; intro e; cases e
/-- The reference's bytes lie beside the memory, by their type. -/
theorem R_off {W : World} {g B n size base : Nat} {pg : Nat → Option Nat} {M : Nat → Nat} {u : Value} {l : List BY} {ok : Nat → Prop} (h : Kd.R k131 131 W base ok u l) (hR : Rm W g B n size pg M) {q r : Nat} {cq cr : Array Value} (hq : Bk W q cq RT2) (hr : Bk W r cr RT2) :
    Kd.R k131 131 W base (fun k => base ≤ k ∧ k < W.heap.size ∧ ¬ memB g B pg k ∧ k ≠ q ∧ k ≠ r) u l :=
  Kd.R_mono (Kd.R_bound h) fun k hk => by
    obtain ⟨_, h2, h3, t, ht, cells, hc⟩ := hk
    have ht' : t = 131 := by
      rcases List.mem_cons.1 ht with h | h
      · exact h
      · cases h
    subst ht'
    refine ⟨h2, h3, ?_, ?_, ?_⟩
    · rintro (e | e | ⟨j, hj⟩)
      · subst e; have := hR.blk.blk; rw [hc] at this; injection this with this; injection this with _ this; exact absurd this (by decide)
      · subst e; exact map_blk hR.map _ _ _ hc
      · have := hR.pag j k hj; rw [hc] at this; injection this with this; injection this with _ this; exact absurd this (by decide)
    · rintro rfl; have := hq.blk; rw [hc] at this; injection this with this; injection this with _ this; exact absurd this (by decide)
    · rintro rfl; have := hr.blk; rw [hc] at this; injection this with this; injection this with _ this; exact absurd this (by decide)
theorem rstore_c (u : Value) (l : List BY) (a x : Nat) (w0 w : World) (ok : Nat → Prop) (hB : Below w0.heap.size w0 w) (ha : U a) (hx : U x) (hl : l.length ≤ 1000) (h : Kd.R k131 131 w w0.heap.size ok u l) :
    Calls Try.prog 31 #[.agg #[.int .u64 32768, u], .int .u64 (a : Int), .int .i64 8, .int .u64 (x : Int)] w fun e w' => ∃ v1 : Value, e = .returned (.tuple #[.agg #[.int .u64 32768, v1], .bool (hasB 32768 a 8)]) ∧ Kd.R k131 131 w' w0.heap.size (fun _ => True) v1 (stepL l a x) ∧ Kp w w' ok := by
  have hf : vireoref02_Store.f 6000 32768 l (a : Int) 8 (x : Int) = some (32768, stepL l a x, hasB 32768 a 8) := by
    unfold stepL
    by_cases hh : hasB 32768 a 8 = true
    · rw [if_pos hh, hh]; exact rstore_yes 32768 l a x ha hx (by decide) hl hh
    · have hh' : hasB 32768 a 8 = false := by simpa using hh
      rw [if_neg hh, hh']; exact rstore_no 32768 l a x ha hx (by decide) hh'
  refine (vireoref02_Store.calls 6000 32768 ok u l _ _ _ _ _ _ w0 w hB h hf).mono ?_
  rintro e w' ⟨v1, he, hR, hb, hk⟩
  exact ⟨v1, he, Kd.R_mono hR fun _ _ => trivial, ⟨hb.os.trans hB.os.symm, hb.tape.trans hB.tape.symm, hb.output.trans hB.output.symm, hk.1, hk.2⟩⟩
/-- What a round keeps. -/
structure MInv (w W : World) (g B r q : Nat) (pg : Nat → Option Nat) (u : Value) (xs : List PW) (k : Nat) : Prop where
  R : Rm W g B (8 * k) 32768 pg (memM xs k)
  L : Kd.R k131 131 W w.heap.size (fun _ => True) u (memL xs k)
  Q : Bk W q (ramC u) RT2
  Z : Bk W r #[.int .u64 0, .slice none 0 0] RT2
  K : KpN w W
  lo : ∀ i, memB g B pg i → w.heap.size ≤ i
/-- Blocks of other types are none of the memory's. -/
theorem Rm.off {W : World} {g B n size : Nat} {pg : Nat → Option Nat} {M : Nat → Nat} (hR : Rm W g B n size pg M) {k : Nat} {cells : Array Value} {t : TypeId} (hc : W.heap[k]? = some (.cells cells t (0, 0))) (h1 : t ≠ QT) (h2 : t ≠ GT) : ¬ memB g B pg k := by
  rintro (e | e | ⟨j, hj⟩)
  · subst e; have := hR.blk.blk; rw [hc] at this; injection this with this; injection this with _ this; exact h1 this
  · subst e; exact map_blk hR.map _ _ _ hc
  · have := hR.pag j k hj; rw [hc] at this; injection this with this; injection this with _ this; exact h2 this
/-- 'return m, w'. -/
theorem mv_out {P : Program} {id : Nat} {Q : Exit → Act → World → Prop} {a : Act} {w : World} {o0 o1 o2 o3 : Oper} (hm : P.follows .mixedOrders = true)
    (n0 : o0.guard = none) (n1 : o1.guard = none) (n2 : o2.guard = none) (n3 : o3.guard = none)
    (r0 : Region.ready .any #[o0, o1, o2, o3] #[false, false, false, false] = [0, 1])
    (r1 : Region.ready .any #[o0, o1, o2, o3] #[true, false, false, false] = [1, 2])
    (r2 : Region.ready .any #[o0, o1, o2, o3] #[false, true, false, false] = [0])
    (r3 : Region.ready .any #[o0, o1, o2, o3] #[true, true, false, false] = [2])
    (r4 : Region.ready .any #[o0, o1, o2, o3] #[true, false, true, false] = [1])
    (r5 : Region.ready .any #[o0, o1, o2, o3] #[true, true, true, false] = [3])
    (r6 : Region.ready .any #[o0, o1, o2, o3] #[true, true, true, true] = [])
    {T : TypeId} {x0 x1 x2 x3 y3 : Operand} {D : TypeDesc} (e0 : o0.op = .move x0) (e1 : o1.op = .load T x1) (e2 : o2.op = .assign x2) (e3 : o3.op = .store T x3 y3) (d3 : o3.dst = none)
    (u0 : P.underlying T = some D) (q0 : (match D with | .struct _ | .array _ _ => true | _ => false) = true)
    (g h : Nat) (cs zs : Array Value) (v : Value) (i0 : (P.info? T).map (·.size) = some cs.size) (s0 : zs.size = cs.size) (v0 : cs.all (·.oneCell') = true)
    (b0 : w.heap[g]? = some (.cells cs T (0, 0))) (b1 : w.heap[h]? = some (.cells zs T (0, 0)))
    (p0 : a.eval x0 = v) (p0' : (a.put o1.dst (.agg cs)).eval x0 = v)
    (p1 : a.eval x1 = .pointer (some ⟨g, 0, none⟩)) (p1' : (a.put o0.dst v).eval x1 = .pointer (some ⟨g, 0, none⟩)) (p1'' : ((a.put o0.dst v).put o2.dst v).eval x1 = .pointer (some ⟨g, 0, none⟩))
    (p2 : ((a.put o0.dst v).put o1.dst (.agg cs)).eval x2 = v) (p2' : (a.put o0.dst v).eval x2 = v)
    (comm1 : (a.put o1.dst (.agg cs)).put o0.dst v = (a.put o0.dst v).put o1.dst (.agg cs))
    (comm2 : ((a.put o0.dst v).put o2.dst v).put o1.dst (.agg cs) = ((a.put o0.dst v).put o1.dst (.agg cs)).put o2.dst v)
    (p3 : (((a.put o0.dst v).put o1.dst (.agg cs)).put o2.dst v).eval x3 = .pointer (some ⟨h, 0, none⟩))
    (p4 : (((a.put o0.dst v).put o1.dst (.agg cs)).put o2.dst v).eval y3 = .agg cs)
    (k : ∀ w2, w2.heap[h]? = some (.cells cs T (0, 0)) → Kp w w2 (fun i => i = h) → Q .normal (((a.put o0.dst v).put o1.dst (.agg cs)).put o2.dst v) w2) :
    (Code.region id #[o0, o1, o2, o3] true).wp P Q a w := by
  refine wp_region_any hm ?_
  show wpAny P .any #[o0, o1, o2, o3] Q 4 #[false, false, false, false] a w.drew
  have kd : Kp w w.drew (fun i => i = h) := (Kp.refl _ _).drew
  have last : wpAny P .any #[o0, o1, o2, o3] Q 1 #[true, true, true, false] (((a.put o0.dst v).put o1.dst (.agg cs)).put o2.dst v) w.drew :=
    any_1 r5 rfl n3 (wp_st e3 d3 h cs zs T p3 p4 b1 i0 s0 v0 fun w2 t k2 => wpAny_done r6 (k w2 t (kd.trans k2)) _)
  have mid : wpAny P .any #[o0, o1, o2, o3] Q 2 #[true, true, false, false] ((a.put o0.dst v).put o1.dst (.agg cs)) w.drew :=
    any_1 r3 rfl n2 (wp_as e2 (by rw [p2]; exact last))
  refine any_2 r0 rfl n0 rfl n1 ?_ ?_
  · refine wp_mv e0 ?_
    rw [p0]
    refine any_2 r1 rfl n1 rfl n2 ?_ ?_
    · exact wp_ld e1 g p1' T cs D b0 u0 q0 i0 mid
    · refine wp_as e2 ?_
      show wpAny P .any #[o0, o1, o2, o3] Q 2 #[true, false, true, false] ((a.put o0.dst v).put o2.dst ((a.put o0.dst v).eval x2)) w.drew
      rw [p2']
      refine any_1 r4 rfl n1 (wp_ld e1 g p1'' T cs D b0 u0 q0 i0 ?_)
      show wpAny P .any #[o0, o1, o2, o3] Q 1 #[true, true, true, false] (((a.put o0.dst v).put o2.dst v).put o1.dst (.agg cs)) w.drew
      rw [comm2]
      exact last
  · refine wp_ld e1 g p1 T cs D b0 u0 q0 i0 ?_
    refine any_1 r2 rfl n0 (wp_mv e0 ?_)
    show wpAny P .any #[o0, o1, o2, o3] Q 2 #[true, true, false, false] ((a.put o1.dst (.agg cs)).put o0.dst ((a.put o1.dst (.agg cs)).eval x0)) w.drew
    rw [p0', comm1]
    exact mid
def memPost (xs : List PW) (w : World) (e : Ending) (w' : World) : Prop := ∃ (g B : Nat) (pg : Nat → Option Nat) (A : Option Addr) (c n : Nat), e = .returned (.tuple #[.pointer (some ⟨g, 0, none⟩), .agg (ramC (.slice A n c))]) ∧ Rm w' g B (8 * xs.length) 32768 pg (memM xs xs.length) ∧ Kd.R k131 131 w' w.heap.size (fun _ => True) (.slice A n c) (memL xs xs.length) ∧ KpN w w' ∧ ∀ i, memB g B pg i → w.heap.size ≤ i
set_option maxHeartbeats 8000000 in
set_option maxRecDepth 100000 in
theorem memory_yes (A : Option Addr) (c : Nat) (xs : List PW) (w : World) (hn : xs.length ≤ 60) (hC : Kd.C k72 w A xs.length xs) (hx : putOk xs) :
    Calls Try.prog 9 #[.slice A xs.length c] w (memPost xs w) := by
  have NW : Aside0 (∀ W, Calls Try.prog 29 #[.int .u64 32768] W fun e w' => ∃ g B, e = .returned (.tuple #[.pointer (some ⟨g, 0, none⟩), .int .i64 0]) ∧ Rm w' g B 0 32768 (fun _ => none) (fun _ => 0) ∧ KpN W w' ∧ W.heap.size ≤ g ∧ W.heap.size ≤ B) := ⟨fun W => new_m 32768 W (by decide) (by decide) al32⟩
  have t4 : decide (60 < xs.length) = false := decide_eq_false (by omega)
  have t5 : decide (60 < (xs.length : Int)) = false := decide_eq_false (by omega)
  have Hn := Aside0.mk hn
  have HC := Aside0.mk hC
  clear hn hC
  go_enter Try.func9, Try.ntmps9
  go_wp2_with (first
    | ((with_reducible refine gate_dst (N := 3) rfl ?_); refine al_ev rfl rfl (N := 3) rfl _ (zeroM _) ?_; intro r hg_r w2 hb_r hk_r; have Hg_r := Aside0.mk hg_r; clear hg_r)
    | ((with_reducible refine gate_dst (N := 4) rfl ?_); refine al_ev rfl rfl (N := 4) rfl _ (zeroM _) ?_; intro q hg_q w3 hb_q hk_q; have Hg_q := Aside0.mk hg_q; clear hg_q)
    | ((with_reducible refine gate_store (t := 30) (p := 4) rfl ?_); refine st_ev rfl rfl rfl q (ramC (.slice none 0 0)) _ _ rfl rfl (hb_q) infoM rfl ((by simp [Value.oneCell'])) ?_; intro w4 hs_w4 ks_w4)
    | (go_at_call 29; refine (NW.out _).mono ?_; rintro e w1 ⟨g, B, rfl, hR1, hk1, hg, hB⟩; have hg' := Aside0.mk hg; have hB' := Aside0.mk hB; clear hg hB))
  have Q3 : Bk w4 q (ramC (.slice none 0 0)) RT2 := ⟨hs_w4⟩
  have R2 : Bk w2 r #[.int .u64 0, .slice none 0 0] RT2 := ⟨hb_r⟩
  have hrq : r ≠ q := by have := Hg_q.out; have := blk_lt hb_r; omega
  have R4 := (R2.kp hk_q (fun h => h)).kp ks_w4 hrq
  have K4 : KpN w w4 := (hk_r.trans hk_q).then ks_w4 fun i hi (e : i = q) => by have := Hg_q.out; have := hk_r.size; omega
  have hqw : Aside0 (w.heap.size ≤ q) := ⟨by have := Hg_q.out; have := hk_r.size; omega⟩
  have hrw : Aside0 (w.heap.size ≤ r) := ⟨by have := Hg_r.out; omega⟩
  have I0 : Aside0 (MInv w w1 g B r q (fun _ => none) (.slice none 0 0) xs 0) := ⟨hR1, Kd.R_nil _ _ _ _ _, Q3.kp hk1 (fun h => h), R4.kp hk1 (fun h => h), K4.trans hk1, by
    rintro i (e | e | ⟨_, h⟩)
    · have := hg'.out; have := K4.size; omega
    · have := hB'.out; have := K4.size; omega
    · cases h⟩
  clear hb_r hk_r Hg_r hb_q hk_q Hg_q hs_w4 ks_w4 hR1 hk1 hg' hB' Q3 R2 R4 K4
  go_loopw [7] (fun i W => ∃ (k : Nat) (pg : Nat → Option Nat) (u : Value), k ≤ xs.length ∧ i = .int .i64 k ∧ Aside0 (MInv w W g B r q pg u xs k)) (fun i _ => xs.length - (intOf i).toNat)
  case atStart => exact ⟨0, _, _, Nat.zero_le _, rfl, I0⟩
  case round =>
    obtain ⟨k, pg, u, hk, rfl, Inv⟩ := hrel
    have inv := Inv.out
    by_cases hkn : k < xs.length
    · have hCr : Kd.C k72 wr A xs.length xs := Kd.C_below HC.out (inv.K.below (fun _ _ h => h.elim) (Nat.le_refl _))
      obtain ⟨ad, hA, e0, e1⟩ := at_T72 hCr (k : Int) (by omega) (by omega)
      have er : rd_T72 xs (k : Int) = xs.getD k z72 := by unfold rd_T72; rw [Int.toNat_natCast]
      obtain ⟨a, x, hv, ha, hx0⟩ := putOk_at hx k
      have HM : Aside0 (memM xs (k + 1) = stepM (memM xs k) a x) := ⟨by
        show stepM (memM xs k) (xs.getD k z72).f0.toNat (xs.getD k z72).f1.toNat = _
        rw [hv]; rfl⟩
      have HL : Aside0 (memL xs (k + 1) = stepL (memL xs k) a x) := ⟨by
        show stepL (memL xs k) (xs.getD k z72).f0.toNat (xs.getD k z72).f1.toNat = _
        rw [hv]; rfl⟩
      subst hA
      have HE : Aside0 (∀ W : World, KpN w W → W.cell? (ad.add (k * 2)) = some (.int .u64 (a : Int)) ∧ W.cell? ⟨(ad.add (k * 2)).block, (ad.add (k * 2)).off + 1, none⟩ = some (.int .u64 (x : Int))) := ⟨fun W hW => by
        obtain ⟨ad2, hA2, q0, q1⟩ := at_T72 (Kd.C_below HC.out (hW.below (fun _ _ h => h.elim) (Nat.le_refl _))) (k : Int) (by omega) (by omega)
        obtain rfl : ad = ad2 := Option.some.inj hA2
        rw [er, hv, Int.toNat_natCast] at q0 q1
        exact ⟨q0, q1⟩⟩
      clear e0 e1 er hv hCr
      obtain ⟨e0, e1⟩ := HE.out wr inv.K
      have i0 : (0 : Int) ≤ (k : Int) := by omega
      have i1 : (k : Int) < (xs.length : Int) := by omega
      have i2 : decide ((k : Int) < (xs.length : Int)) = true := decide_eq_true i1
      have i3 : decide (k < xs.length) = true := decide_eq_true hkn
      have i4 : (k : Int) < 60 := by have := Hn.out; omega
      obtain ⟨hb, hhb⟩ : ∃ hb, hasB 32768 a 8 = hb := ⟨_, rfl⟩
      have SA : Aside0 (∀ W, Rm W g B (8 * k) 32768 pg (memM xs k) → Calls Try.prog 30 #[.pointer (some ⟨g, 0, none⟩), .int .u64 (a : Int), .int .i64 8, .int .u64 (x : Int)] W fun e w' => e = .returned (.bool hb) ∧ stPost g B (8 * k + 8) 32768 pg (memM xs (k + 1)) W w') := ⟨fun W h => by
        rw [HM.out, ← hhb]; exact store_any g B (8 * k) 32768 pg (memM xs k) a x W h ha (by decide) (by have := Hn.out; omega) hx0⟩
      have LC : Aside0 (∀ W u ok, KpN w W → Kd.R k131 131 W w.heap.size ok u (memL xs k) → Calls Try.prog 31 #[.agg #[.int .u64 32768, u], .int .u64 (a : Int), .int .i64 8, .int .u64 (x : Int)] W fun e w' => ∃ v1 : Value, e = .returned (.tuple #[.agg #[.int .u64 32768, v1], .bool hb]) ∧ Kd.R k131 131 w' w.heap.size (fun _ => True) v1 (memL xs (k + 1)) ∧ Kp W w' ok) := ⟨fun W u ok hW h => by
        rw [HL.out, ← hhb]; exact rstore_c u (memL xs k) a x w W ok (hW.below (fun _ _ h => h.elim) (Nat.le_refl _)) ha hx0 (by have := memL_len xs k; have := Hn.out; omega) h⟩
      clear HM HL hhb
      clear inv
      go_wp2
      go_still_tail 11, (by kernel_rfl)
      change wpList _ _ _ _ _ wr.drew
      go_wp2_with (go_at_call 30; refine (SA.out wr.drew (Inv.out.R.kpN (Kp.refl _ _).drew)).mono ?_; rintro e wa ⟨rfl, pg', hRa, hKa, hTa⟩)
      have kz : KpN wr wr.drew := (Kp.refl wr _).drew
      have Ka : KpN w wa := (Inv.out.K.trans kz).then hKa fun i hi h => by have := Inv.out.lo i h; omega
      have Qa : Bk wa q (ramC u) RT2 := (Inv.out.Q.kp kz (fun h => h)).kp hKa (Inv.out.R.off Inv.out.Q.blk (by decide) (by decide))
      have Za : Bk wa r #[.int .u64 0, .slice none 0 0] RT2 := (Inv.out.Z.kp kz (fun h => h)).kp hKa (Inv.out.R.off Inv.out.Z.blk (by decide) (by decide))
      have La : Kd.R k131 131 wa w.heap.size (fun _ => True) u (memL xs k) := Kd.R_mono (Kd.R_step (w1 := wa) (R_off Inv.out.L Inv.out.R Inv.out.Q Inv.out.Z) (fun k1 hk1 _ => hKa.block k1 hk1.2.1 hk1.2.2.1)) fun _ _ => trivial
      have lo : Aside0 (∀ i, memB g B pg' i → w.heap.size ≤ i) := ⟨fun i h => by
        rcases hTa i h with h | h
        · exact Inv.out.lo i h
        · exact Nat.le_trans Inv.out.K.size h⟩
      obtain ⟨e0a, e1a⟩ := HE.out wa Ka
      have HKa := Aside0.mk Ka
      have HQa := Aside0.mk Qa
      have HZa := Aside0.mk Za
      have HLa := Aside0.mk La
      have HRa := Aside0.mk hRa
      clear e0 e1 hKa hTa Ka Qa Za La hRa SA Inv kz
      go_wp2
      refine wp_region_still_open 11 5 #[true, true, true, true, true, true, true, true, true, true, true, false, false, false, false, false] (by kernel_rfl) (by kernel_rfl) (by kernel_rfl) ?_
      simp only [List.take_succ_cons, List.take_zero, List.drop_succ_cons, List.drop_zero]
      refine wpStill_ld rfl rfl q rfl _ (ramC u) _ HQa.out.blk Try.underlying30 rfl infoM ?_
      repeat still_step
      try refine wpStill_nil ?_
      have kz : KpN wa wa.drew := (Kp.refl wa _).drew
      have Ld := Kd.R_step (w1 := wa.drew) (R_off HLa.out HRa.out HQa.out HZa.out) (fun k1 _ hk1 => kz.block k1 hk1 (fun h => h))
      have HLd := Aside0.mk Ld
      clear Ld
      refine any_1 (i := 11) (by kernel_rfl) rfl rfl (wp_ca rfl Try.func31 (by kernel_rfl) rfl #[.agg (ramC u), .int .u64 (a : Int), .int .i64 8, .int .u64 (x : Int)] (by simp only [List.map_toArray, List.map_cons, List.map_nil]; rfl) ?_)
      refine (LC.out wa.drew u _ (HKa.out.trans kz) HLd.out).mono ?_
      rintro e wb ⟨v1, rfl, hLb, kb⟩
      obtain ⟨A1, c1, hv1⟩ := Kd.R_slice hLb
      subst hv1
      have hQb := (HQa.out.kp kz (fun h => h)).kp kb (fun h => h.2.2.2.1 rfl)
      refine ⟨_, rfl, ?_⟩
      refine any_1 (i := 12) (by kernel_rfl) rfl rfl (wp_mv rfl ?_)
      refine wp_two (i := 13) (j := 14) (k := 15) rfl rfl rfl rfl rfl rfl (by kernel_rfl) (by kernel_rfl) (by kernel_rfl) (by kernel_rfl) (by kernel_rfl) (by kernel_rfl) (by kernel_rfl) (by kernel_rfl) (by kernel_rfl) rfl rfl rfl rfl #[.agg (ramC (.slice A1 (memL xs (k + 1)).length c1)), .bool hb] (ramC (.slice A1 (memL xs (k + 1)).length c1)) (ramC u) (.bool hb) rfl rfl q infoM rfl (by simp [Value.oneCell']) hQb.blk rfl rfl rfl rfl rfl rfl rfl rfl rfl ?_
      intro wc hs_wc ks_wc
      have hRb : Rm wb g B (8 * (k + 1)) 32768 pg' (memM xs (k + 1)) := (HRa.out.kpN kz).kp kb fun i h hk1 => hk1.2.2.1 h
      have hqB : ∀ i, memB g B pg' i → ¬ i = q := fun i h e => hRb.off hQb.blk (by decide) (by decide) (e ▸ h)
      have hZb := (HZa.out.kp kz (fun h => h)).kp kb (fun h => h.2.2.2.2 rfl)
      have kac : KpN w wc := ((HKa.out.trans kz).then kb fun i hi h => by have := h.1; omega).then ks_wc fun i hi (e : i = q) => by have := hqw.out; omega
      have Lc : Kd.R k131 131 wc w.heap.size (fun _ => True) (.slice A1 (memL xs (k + 1)).length c1) (memL xs (k + 1)) := Kd.R_mono (Kd.R_step (w1 := wc) (R_off hLb hRb hQb hZb) (fun k1 hk1 _ => ks_wc.block k1 hk1.2.1 hk1.2.2.2.1)) fun _ _ => trivial
      have REL : Aside0 (MInv w wc g B r q pg' (.slice A1 (memL xs (k + 1)).length c1) xs (k + 1)) := ⟨hRb.kp ks_wc hqB, Lc, ⟨hs_wc⟩, hZb.kp ks_wc hrq, kac, lo.out⟩
      clear hs_wc ks_wc hRb hqB hZb kac Lc hLb hQb kb HLd kz HRa HLa HZa HQa HKa lo LC HE
      simp only [Act.put, List.setIfInBounds_toArray, List.set_cons_zero, List.set_cons_succ]
      go_wp2
      go_roundw
      case rel => exact ⟨k + 1, _, _, by omega, by go_num, REL⟩
      case measure => simp [intOf]; omega
    · have hke : k = xs.length := by omega
      have i2 : decide ((k : Int) < (xs.length : Int)) = false := decide_eq_false (by omega)
      have i3 : decide (k < xs.length) = false := decide_eq_false hkn
      obtain ⟨A1, c1, hu⟩ := Kd.R_slice inv.L
      subst hu
      have Hke := Aside0.mk hke
      clear hke inv
      go_wp2
      refine mv_out (by kernel_rfl) rfl rfl rfl rfl (by kernel_rfl) (by kernel_rfl) (by kernel_rfl) (by kernel_rfl) (by kernel_rfl) (by kernel_rfl) (by kernel_rfl) rfl rfl rfl rfl rfl Try.underlying30 rfl q r (ramC (.slice A1 (memL xs k).length c1)) #[.int .u64 0, .slice none 0 0] (.pointer (some ⟨g, 0, none⟩)) infoM rfl (by simp [Value.oneCell']) Inv.out.Q.blk Inv.out.Z.blk rfl rfl rfl rfl rfl rfl rfl rfl rfl rfl rfl ?_
      intro wz h5 k5
      go_wp2
      refine bodyPost_ret (results_tc rfl _ _ r (ramC (.slice A1 (memL xs k).length c1)) (.pointer (some ⟨g, 0, none⟩)) _ rfl rfl h5 Try.underlying30 rfl infoM) rfl ?_
      have hkr : ∀ i, memB g B pg i → ¬ i = r := fun i h e => Inv.out.R.off Inv.out.Z.blk (by decide) (by decide) (e ▸ h)
      have e := Hke.out
      have Lz : Kd.R k131 131 wz w.heap.size (fun _ => True) (.slice A1 (memL xs k).length c1) (memL xs k) := Kd.R_mono (Kd.R_step (w1 := wz) (R_off Inv.out.L Inv.out.R Inv.out.Q Inv.out.Z) (fun k1 hk1 _ => k5.block k1 hk1.2.1 hk1.2.2.2.2)) fun _ _ => trivial
      have Rz := Inv.out.R.kp k5 hkr
      rw [e] at Lz Rz
      exact ⟨g, B, pg, A1, c1, _, rfl, Rz, e ▸ Lz, Inv.out.K.then k5 fun i hi (e : i = r) => by have := hrw.out; omega, Inv.out.lo⟩
end Go.Proofs.Ytlhdildnekllhaa.H
