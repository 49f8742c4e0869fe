/- What the statements of the registers begin with (vireolaw08.Begun), walked by hand. -/
import Derived.Test.YtkbnoeebnmphbaaHreg
namespace Go.Proofs.Ytkbnoeebnmphbaa.H
open Go.RowKit Go.Proofs.YtkbnoeebnmphbaaW.PrintWords Go.Proofs.YtkbnoeebnmphbaaW.PrintLast Go.Proofs.Ytkbnoeebnmphbaa.PAl Go.Proofs.Ytkbnoeebnmphbaa.Pure Go.Proofs.Ytkbnoeebnmphbaa.Vw
set_option linter.unusedVariables false
set_option linter.unusedSimpArgs false
theorem getD_at {α : Type} (l : List α) (d : α) (k : Nat) (h : k < l.length) : l.getD k d = l[k] := by
  rw [List.getD_eq_getElem?_getD, List.getElem?_eq_getElem h]; rfl
abbrev WR := S62
/-- The file behind the first k writes; likewise the document's. -/
def foldF (xs : List WR) : Nat → VS
  | 0 => vs0
  | k + 1 => writeW (foldF xs k) (xs.getD k z62).f0 (xs.getD k z62).f1.toNat
def foldR (xs : List WR) : Nat → VS
  | 0 => vs0
  | k + 1 => rwriteW (foldR xs k) (xs.getD k z62).f0 (xs.getD k z62).f1.toNat
def wrOk (xs : List WR) : Prop := ∀ y ∈ xs, 0 ≤ y.f1 ∧ y.f1 < 18446744073709551616
theorem wrOk_at {xs : List WR} (h : wrOk xs) (k : Nat) : (xs.getD k z62).f1 = (((xs.getD k z62).f1.toNat : Nat) : Int) ∧ U (xs.getD k z62).f1.toNat := by
  by_cases hk : k < xs.length
  · rw [getD_at xs _ k hk]
    have := h _ (List.getElem_mem hk)
    exact ⟨by omega, ⟨by omega⟩⟩
  · rw [List.getD_eq_getElem?_getD, List.getElem?_eq_none (by omega)]
    exact ⟨rfl, ⟨by decide⟩⟩
theorem foldF_ok {xs : List WR} (h : wrOk xs) : ∀ k, (foldF xs k).ok
  | 0 => vs0_ok
  | k + 1 => writeW_ok (foldF_ok h k) _ (wrOk_at h k).2
theorem foldR_ok {xs : List WR} (h : wrOk xs) : ∀ k, (foldR xs k).ok
  | 0 => vs0_ok
  | k + 1 => rwriteW_ok (foldR_ok h k) _ (wrOk_at h k).2
abbrev startC (m : Int) (A : Option Addr) (n c : Nat) (l : Int) : Array Value := #[.int .i64 m, .slice A n c, .int .u64 l]
def bgF (m : Int) (xs : List WR) (l : Nat) : VS := ((foldF xs xs.length).set 6 (l &&& 2696)).mode m
def bgR (m : Int) (xs : List WR) (l : Nat) : VS := ((foldR xs xs.length).set 3 (l &&& 2696)).mode m
def bgOk (m : Int) (n : Nat) : Prop := 0 ≤ m ∧ m ≤ 3 ∧ m ≠ 2 ∧ n ≤ 40
structure Lts (w : World) (g r q f p : Nat) : Prop where
  a : w.heap.size ≤ g
  b : g < r
  c : r < q
  d : q < f
  e : f < p
theorem begun_at {w w1 w2 w3 w4 w5 w6 w7 w8 : World} {g r q f p : Nat} {cs : Array Value} {T : TypeId} {z : VS} (e1 : g = w.heap.size) (e2 : r = w1.heap.size) (e3 : q = w2.heap.size) (e4 : f = w4.heap.size) (e5 : p = w6.heap.size)
    (b1 : w1.heap[g]? = some (.cells cs T (0, 0))) (b2 : w2.heap[r]? = some (.cells z.cells FT (0, 0))) (b3 : w3.heap[q]? = some (.cells z.cells RT (0, 0))) (b6 : w6.heap[f]? = some (.cells vs0.cells FT (0, 0))) (b8 : w8.heap[p]? = some (.cells vs0.cells RT (0, 0)))
    (k1 : Kp w w1 (fun _ => False)) (k2 : Kp w1 w2 (fun _ => False)) (k3 : Kp w2 w3 (fun _ => False)) (k4 : Kp w3 w4 (fun _ => False)) (k5 : Kp w4 w5 (fun _ => False)) (k6 : Kp w5 w6 (fun i => i = f)) (k7 : Kp w6 w7 (fun _ => False)) (k8 : Kp w7 w8 (fun i => i = p)) :
    Bk w8 g cs T ∧ St FT w8 f vs0 ∧ St RT w8 p vs0 ∧ St FT w8 r z ∧ St RT w8 q z ∧ Lts w g r q f p ∧ KpN w w8 := by
  have l1 := blk_lt b1
  have l2 := blk_lt b2
  have l3 := blk_lt b3
  have l6 := blk_lt b6
  have s4 := k4.size
  have s5 := k5.size
  have s6 := k6.size
  have s1 := k1.size
  have s2 := k2.size
  have s3 := k3.size
  have k38 : KpN w3 w8 := by
    have k36 : KpN w3 w6 := (k4.trans k5).then k6 fun i hi (e : i = f) => by omega
    exact (k36.trans k7).then k8 fun i hi (e : i = p) => by omega
  have k68 : KpN w6 w8 := k7.then k8 fun i hi (e : i = p) => by omega
  refine ⟨(Bk.mk b1).kp ((k2.trans k3).trans k38) (fun h => h), (St.mk b6).kp k68 (fun h => h), ⟨b8⟩, (St.mk b2).kp (k3.trans k38) (fun h => h), (St.mk b3).kp k38 (fun h => h), ⟨by omega, by omega, by omega, by omega, by omega⟩, ((k1.trans k2).trans k3).trans k38⟩
def vz : VS := VS.mk 0 fun _ => 0
set_option maxHeartbeats 8000000 in
set_option maxRecDepth 100000 in
theorem begun_no (m : Int) (A : Option Addr) (c : Nat) (l : Int) (xs : List WR) (w : World) (hb : ¬ bgOk m xs.length) :
    Calls Try.prog 12 #[.agg (startC m A xs.length c l)] w fun e w' => e = .returned (.tuple #[.agg vs0.cells, .agg vs0.cells, .bool false]) ∧ KpN w w' := by
  have hcase : (decide (m < 0) = true) ∨ (decide (m < 0) = false ∧ decide (3 < m) = true) ∨ (decide (m < 0) = false ∧ decide (3 < m) = false ∧ (m == 2) = true) ∨ (decide (m < 0) = false ∧ decide (3 < m) = false ∧ (m == 2) = false ∧ decide (40 < xs.length) = true ∧ decide (40 < (xs.length : Int)) = true) := by
    by_cases h1 : m < 0
    · exact .inl (decide_eq_true h1)
    by_cases h2 : 3 < m
    · exact .inr (.inl ⟨decide_eq_false h1, decide_eq_true h2⟩)
    by_cases h3 : m = 2
    · exact .inr (.inr (.inl ⟨decide_eq_false h1, decide_eq_false h2, beq_iff_eq.2 h3⟩))
    · have : ¬ xs.length ≤ 40 := fun h => hb ⟨by omega, by omega, h3, h⟩
      exact .inr (.inr (.inr ⟨decide_eq_false h1, decide_eq_false h2, beq_eq_false_iff_ne.2 h3, decide_eq_true (by omega), decide_eq_true (by omega)⟩))
  clear hb
  rcases hcase with t1 | ⟨t1, t2⟩ | ⟨t1, t2, t3⟩ | ⟨t1, t2, t3, t4, t5⟩
  all_goals
    go_enter Try.func12, Try.ntmps12
    go_wp2_with (first
      | ((with_reducible refine gate_dst (N := 1) rfl ?_); refine bx_ev rfl rfl (N := 1) rfl (startC m A xs.length c l) rfl ?_; intro g hg_g w1 hb_g hk_g; have Hg_g := Aside0.mk hg_g; clear hg_g)
      | ((with_reducible refine gate_dst (N := 2) rfl ?_); refine al_ev rfl rfl (N := 2) rfl _ (zeroF _) ?_; intro r hg_r w2 hb_r hk_r; have Hg_r := Aside0.mk hg_r; clear hg_r)
      | ((with_reducible refine gate_dst (N := 3) rfl ?_); refine al_ev rfl rfl (N := 3) rfl _ (zeroR _) ?_; intro q hg_q w3 hb_q hk_q; have Hg_q := Aside0.mk hg_q; clear hg_q)
      | (go_at_call 28; refine (begin_c _).mono ?_; rintro e w4 ⟨rfl, hk4⟩)
      | ((with_reducible refine gate_dst (N := 5) rfl ?_); refine al_ev rfl rfl (N := 5) rfl _ (zeroF _) ?_; intro f hg_f w5 hb_f hk_f; have Hg_f := Aside0.mk hg_f; clear hg_f)
      | ((with_reducible refine gate_store (t := 35) (p := 5) rfl ?_); refine st_ev rfl rfl rfl f (vs0.cells) _ _ rfl rfl (hb_f) infoF rfl (VS.one _) ?_; intro w6 hs_w6 ks_w6)
      | ((with_reducible refine gate_dst (N := 6) rfl ?_); refine al_ev rfl rfl (N := 6) rfl _ (zeroR _) ?_; intro p hg_p w7 hb_p hk_p; have Hg_p := Aside0.mk hg_p; clear hg_p)
      | (((with_reducible refine gate_store (t := 38) (p := 6) rfl ?_); refine st_ev rfl rfl rfl p (vs0.cells) _ _ rfl rfl (hb_p) infoR rfl (VS.one _) ?_; intro w8 hs_w8 ks_w8); obtain ⟨hG, hF, hP, hR, hQ, hlt, K8⟩ := begun_at (Hg_g.out) (Hg_r.out) (Hg_q.out) (Hg_f.out) (Hg_p.out) hb_g hb_r hb_q hs_w6 hs_w8 hk_g hk_r hk_q hk4 hk_f ks_w6 hk_p ks_w8; clear hb_g hb_r hb_q hs_w6 hs_w8 hk_g hk_r hk_q hk4 hk_f ks_w6 hk_p ks_w8 hb_f hb_p Hg_g Hg_r Hg_q Hg_f Hg_p; have c0 := hG.c 0; have c1 := hG.c 1; have c2 := hG.c 2; rw [show (startC m A xs.length c l)[0]? = some (.int .i64 m) from rfl] at c0; rw [show (startC m A xs.length c l)[1]? = some (.slice A xs.length c) from rfl] at c1; rw [show (startC m A xs.length c l)[2]? = some (.int .u64 l) from rfl] at c2))
    refine two_out (by kernel_rfl) rfl rfl rfl rfl rfl (by kernel_rfl) (by kernel_rfl) (by kernel_rfl) (by kernel_rfl) (by kernel_rfl) (by kernel_rfl) (by kernel_rfl) (by kernel_rfl) rfl rfl rfl rfl rfl rfl rfl Try.underlying35 Try.underlying38 rfl rfl f p r q vs0.cells vs0.cells (VS.mk 0 fun _ => 0).cells (VS.mk 0 fun _ => 0).cells infoF infoR rfl rfl (VS.one _) (VS.one _) hF.blk hP.blk hR.blk hQ.blk (by have := hlt.b; have := hlt.c; have := hlt.d; have := hlt.e; omega) (by have := hlt.c; omega) rfl rfl rfl rfl rfl rfl rfl rfl rfl rfl rfl ?_
    intro w9 h9 h9b k9
    go_wp2
    refine bodyPost_ret (results_cct rfl _ _ r q vs0.cells vs0.cells (.bool false) _ _ rfl rfl rfl h9 h9b Try.underlying35 Try.underlying38 rfl rfl infoF infoR) rfl ?_
    exact ⟨rfl, K8.then k9 fun i hi (e : i = r ∨ i = q) => by have := hlt.a; have := hlt.b; have := hlt.c; omega⟩
end Go.Proofs.Ytkbnoeebnmphbaa.H
