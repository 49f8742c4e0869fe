/- fdt.reader.node. -/
import Derived.Test.YtmhlellhfepkkaaHrn0
namespace Go.Proofs.Ytmhlellhfepkkaa.B
open Go.RowKit Go.Proofs.YtmhlellhfepkkaaW.PrintWords Go.Proofs.YtmhlellhfepkkaaW.PrintLast Go.Proofs.YtmhlellhfepkkaaW.PrintMore Go.Proofs.Ytmhlellhfepkkaa.PAl Go.Proofs.Ytmhlellhfepkkaa.H
attribute [local go_sem ↓] Go.wp_at_zero Go.wp_at_succ
set_option linter.unusedVariables false
set_option linter.unusedSimpArgs false
theorem put3r {W : World} {g : Nat} {x0 x1 x2 : Value} {T : TypeId} (h : W.heap[g]? = some (.cells #[x0, x1, x2] T (0, 0))) (a b c : Value) :
    (((W.setCell ⟨g, 0, none⟩ a).setCell ⟨g, 1, none⟩ b).setCell ⟨g, 2, none⟩ c).heap[g]? = some (.cells #[a, b, c] T (0, 0)) ∧ Kp W (((W.setCell ⟨g, 0, none⟩ a).setCell ⟨g, 1, none⟩ b).setCell ⟨g, 2, none⟩ c) (fun i => i = g) :=
  ⟨blk_put (cs := #[a, b, x2]) (blk_put (cs := #[a, x1, x2]) (blk_put (cs := #[x0, x1, x2]) h 0 _ rfl) 1 _ rfl) 2 _ rfl, (((Kp.refl W (fun i => i = g)).setCell (p := ⟨g, 0, none⟩) (.inl rfl) a).setCell (p := ⟨g, 1, none⟩) (.inl rfl) b).setCell (p := ⟨g, 2, none⟩) (.inl rfl) c⟩
theorem Rs.left_ {w0 w : World} {g : Nat} {t nm : List Int} {bad : Bool} {left : Int} {At : Option Addr} {ct : Nat} {An : Option Addr} {cn : Nat} (h : Rs w0 w g t nm bad left At ct An cn) (b : Int) : Rs w0 (w.setCell ⟨g, 3, none⟩ (.int .i64 b)) g t nm bad b At ct An cn ∧ Kp w (w.setCell ⟨g, 3, none⟩ (.int .i64 b)) (fun i => i = g) := by
  obtain ⟨p1, p2⟩ := put_at h.b 3 (.int .i64 b) (#[.slice At t.length ct, .slice An nm.length cn, .bool bad, .int .i64 b]) rfl
  exact ⟨⟨p1, h.tC, h.tl, h.nC, h.nl, h.ge, h.be.trans (p2.below (fun k _ e => by have := h.ge; omega) h.be.size)⟩, p2⟩
/-- What node hands back. -/
def NodePost (w0 w : World) (g : Nat) (nm : List Int) (An : Option Addr) (cn : Nat) (n : S32) (t' : List Int) (bad' : Bool) (left' : Int) (e : Ending) (w' : World) : Prop :=
  ∃ v1 v2 At' ct', e = .returned (.agg #[.string n.f0, v1, v2]) ∧ Kd.N k74 74 w' w0.heap.size (fun k => w.heap.size ≤ k ∧ some k ≠ v2.ownBlock) v1 n.f1 ∧ Kd.N k32 32 w' w0.heap.size (fun k => w.heap.size ≤ k ∧ some k ≠ v1.ownBlock) v2 n.f2 ∧ Rs w0 w' g t' nm bad' left' At' ct' An cn ∧ Kp w w' (fun i => i = g)
/-- The end: the result's block is written. -/
theorem rn_end {w0 w wi : World} {g gr : Nat} {X : Nat → Prop} {t nm : List Int} {bad : Bool} {left : Int} {At : Option Addr} {ct : Nat} {An : Option Addr} {cn : Nat} {v1 v2 x0 x1 x2 : Value} {ps : List S74} {ks : List S32} (h : NL w0 w wi g X t nm bad left At ct An cn v1 v2 ps ks) (hq : wi.heap[gr]? = some (.cells #[x0, x1, x2] 32 (0, 0))) (hX : X gr) (hXs : ∀ k, X k → w.heap.size ≤ k) (nn : ByteArray) :
    (((wi.setCell ⟨gr, 0, none⟩ (.string nn)).setCell ⟨gr, 1, none⟩ v1).setCell ⟨gr, 2, none⟩ v2).heap[gr]? = some (.cells #[.string nn, v1, v2] 32 (0, 0)) ∧ NodePost w0 w g nm An cn ⟨nn, ps, ks⟩ t bad left (.returned (.agg #[.string nn, v1, v2])) (((wi.setCell ⟨gr, 0, none⟩ (.string nn)).setCell ⟨gr, 1, none⟩ v1).setCell ⟨gr, 2, none⟩ v2) := by
  obtain ⟨p1, p2⟩ := put3r hq (.string nn) v1 v2
  have hgl := h.gl
  have hgr := hXs gr hX
  have hr := h.rs.kp p2 (fun e => by omega) (fun k hk e => by have := h.bl.size; omega)
  have hN := h.move p2 (fun k e => .inr (by rw [e]; exact hX)) hXs hr
  exact ⟨p1, v1, v2, _, _, rfl, Kd.N_mono hN.n1 (fun k hk => ⟨hk.1.1, hk.2⟩), Kd.N_mono hN.n2 (fun k hk => ⟨hk.1.1, hk.2⟩), hr, hN.kp⟩
theorem fresh_ok {w0 w w6 : World} {g gn gr : Nat} {t nm : List Int} {bad : Bool} {left : Int} {At : Option Addr} {ct : Nat} {An : Option Addr} {cn : Nat} {v1 v2 : Value} {ps : List S74} {ks : List S32} {x y : Obj} (h : NL w0 w w6 g (fun k => k = gn ∨ k = gr) t nm bad left At ct An cn v1 v2 ps ks) (hb : w6.heap[gn]? = some x) (hz : w6.heap[gr]? = some y) (k : Nat) (hk : w6.heap.size ≤ k) :
    ((w.heap.size ≤ k ∧ ¬ (k = gn ∨ k = gr)) ∧ some k ≠ v2.ownBlock) ∧ some k ≠ v1.ownBlock :=
  ⟨⟨⟨Nat.le_trans h.kp.size hk, fun e => by have := blk_lt hb; have := blk_lt hz; omega⟩, fun e => by have := Kd.N_lt h.n2 k e.symm; omega⟩, fun e => by have := Kd.N_lt h.n1 k e.symm; omega⟩
set_option maxHeartbeats 1000000 in
set_option maxRecDepth 100000 in
theorem rnode_c (w0 : World) (k : Nat) : ∀ (w : World) (g : Nat) (t nm : List Int) (bad : Bool) (left dep : Int) (At : Option Addr) (ct : Nat) (An : Option Addr) (cn : Nat) (h : Rs w0 w g t nm bad left At ct An cn) (hl : t.length < 1099511627776) (hnl : nm.length < 1099511627776)
    (n : S32) (t' : List Int) (bad' : Bool) (left' : Int) (hr : rnode k nm dep t bad left = some (n, t', bad', left')),
    Calls Try.prog 40 #[.pointer (some ⟨g, 0, none⟩), .int .i64 dep] w (NodePost w0 w g nm An cn n t' bad' left') := by
  induction k using Nat.strongRecOn with
  | ind k ih =>
  intro w g t nm bad left dep At ct An cn h hl hnl n t' bad' left' hr
  cases k with
  | zero => simp [rnode] at hr
  | succ k =>
  rw [rnode.eq_2] at hr
  split at hr
  · rename_i hgd
    obtain ⟨⟨tx, ok⟩, hx, hr⟩ := Option.bind_eq_some_iff.mp hr
    have hu87 := Try.underlying87
    have hu32 := Try.underlying32
    have hu88 := hu32
    clear hu88
    have HS := Aside0.mk h; have HL := Aside0.mk hl; have HNL := Aside0.mk hnl; have HG := Aside0.mk hgd; have HX := Aside0.mk hx; have IH := Aside0.mk ih
    have s1 : IntKind.i64.wrap (left - 1) = left - 1 := by rw [IntKind.wrap_i64]; omega
    have C3 : ∀ W, Below w0.heap.size w0 W → Calls Try.prog 46 #[.slice At t.length ct] W fun e W' => e = .returned (.tuple #[.string tx, .bool ok]) ∧ Drawn0 W W' := fun W hB => fdt_text.calls k _ _ _ _ _ W (Kd.C_below h.tC hB) h.tl hx
    have D3 := Aside0.mk C3
    clear C3 h hl hnl hx ih
    by_cases o : ok = false
    · subst o
      rw [if_pos (.inl rfl)] at hr
      have hr' : some (nilN, t, true, left - 1) = some (n, t', bad', left') := hr
      obtain ⟨rfl, rfl, rfl, rfl⟩ : nilN = n ∧ t = t' ∧ true = bad' ∧ left - 1 = left' := by simpa using Option.some.inj hr'
      clear hr hr' HX HG
      go_enter Try.func40, Try.ntmps40
      go_wp2_with (first | (((with_reducible refine gate_dst (N := 4) rfl ?_); refine al_ev rfl rfl (N := 4) rfl _ (zero32 _) ?_; intro gr hg_gr w1 hb_gr hk_gr; have Hg_gr := Aside0.mk hg_gr; clear hg_gr); have hr1 := HS.out.kp hk_gr id (fun _ _ q => q.elim); have HR1 := Aside0.mk hr1; have HZ1 := Aside0.mk hb_gr; have HK1 := Aside0.mk (hk_gr.mono (fun _ _ q => q.elim) : Kp w w1 (fun i => i = g)); have c0 : w1.cell? ⟨g, 0, none⟩ = some (.slice At t.length ct) := blk_cell hr1.b 0; have c2 : w1.cell? ⟨g, 2, none⟩ = some (.bool bad) := blk_cell hr1.b 2; have c3 : w1.cell? ⟨g, 3, none⟩ = some (.int .i64 left) := blk_cell hr1.b 3; have f2 : w1.frozen? ⟨g, 2, none⟩ = false := blk_frozen hr1.b 2; have f3 : w1.frozen? ⟨g, 3, none⟩ = false := blk_frozen hr1.b 3; have z0 : (w1).cell? ⟨gr, 0, none⟩ = some (.string ⟨#[]⟩) := blk_cell hb_gr 0; have z1 : (w1).cell? ⟨gr, 1, none⟩ = some (.slice none 0 0) := blk_cell hb_gr 1; have z2 : (w1).cell? ⟨gr, 2, none⟩ = some (.slice none 0 0) := blk_cell hb_gr 2; have y0 : (w1).frozen? ⟨gr, 0, none⟩ = false := blk_frozen hb_gr 0; have y1 : (w1).frozen? ⟨gr, 1, none⟩ = false := blk_frozen hb_gr 1; have y2 : (w1).frozen? ⟨gr, 2, none⟩ = false := blk_frozen hb_gr 2; have hgne : (gr = g) = False := eq_false (fun e => by have := Hg_gr.out; have := blk_lt HS.out.b; omega); have hgne' : (g = gr) = False := eq_false (fun e => by have := Hg_gr.out; have := blk_lt HS.out.b; omega); clear hr1 hb_gr hk_gr) | ((with_reducible refine gate_callee (f := 46) rfl ?_); refine goesL_ (some 20) rfl rfl Try.func46 (by kernel_rfl) rfl #[.slice At t.length ct] rfl (by simp only [List.map_toArray, List.map_cons, List.map_nil]; rfl) ?_; obtain ⟨r2, k2⟩ := HR1.out.left_ (left - 1); (with_reducible refine (D3.out _ r2.be).mono ?_); rintro e w3 ⟨rfl, hw⟩; refine ⟨_, rfl, ?_⟩; obtain ⟨nq, rfl⟩ := hw.out; have HR3 := Aside0.mk (r2.kp ((Kp.refl _ (fun _ => False)).drewN nq) id (fun _ _ q => q.elim)); have HK3 := Aside0.mk ((HK1.out.trans k2).drewN nq); have HZ3 := Aside0.mk (show ((w1.setCell ⟨g, 3, none⟩ (.int .i64 (left - 1))).drewN nq).heap[gr]? = some (.cells #[.string ⟨#[]⟩, .slice none 0 0, .slice none 0 0] 32 (0, 0)) from (k2.block gr (blk_lt HZ1.out) (of_eq_false hgne)).trans HZ1.out); clear r2 k2 hw HR1 HK1 HZ1) | fail)
      obtain ⟨p1, p2⟩ := HR3.out.bad_ true
      have hN : NL w0 w _ g (fun k => k = gr) t nm true (left - 1) At ct An cn (.slice none 0 0) (.slice none 0 0) [] [] := ⟨p1, Kd.N_nil _ _ _ _ _, Kd.N_nil _ _ _ _ _, HK3.out.trans p2, blk_lt HS.out.b, HS.out.be⟩
      obtain ⟨m1, m2⟩ := rn_end (gr := gr) hN ((p2.block gr (blk_lt HZ3.out) (of_eq_false hgne)).trans HZ3.out) rfl (fun k e => by have := Hg_gr.out; omega) ⟨#[]⟩
      refine bodyPost_ret (results_cell_row rfl _ _ gr 32 (#[.string ⟨#[]⟩, .slice none 0 0, .slice none 0 0]) (0, 0) _ rfl m1 Try.underlying32 rfl (by kernel_rfl)) rfl ?_
      exact m2
    · have o' : ok = true := by simpa using o
      subst o'
      by_cases d8 : 8 < dep
      · rw [if_pos (.inr (.inl d8))] at hr
        have e1 : decide (8 < dep) = true := decide_eq_true d8
        clear o d8
        have hr' : some (nilN, t, true, left - 1) = some (n, t', bad', left') := hr
        obtain ⟨rfl, rfl, rfl, rfl⟩ : nilN = n ∧ t = t' ∧ true = bad' ∧ left - 1 = left' := by simpa using Option.some.inj hr'
        clear hr hr' HX HG
        go_enter Try.func40, Try.ntmps40
        go_wp2_with (first | (((with_reducible refine gate_dst (N := 4) rfl ?_); refine al_ev rfl rfl (N := 4) rfl _ (zero32 _) ?_; intro gr hg_gr w1 hb_gr hk_gr; have Hg_gr := Aside0.mk hg_gr; clear hg_gr); have hr1 := HS.out.kp hk_gr id (fun _ _ q => q.elim); have HR1 := Aside0.mk hr1; have HZ1 := Aside0.mk hb_gr; have HK1 := Aside0.mk (hk_gr.mono (fun _ _ q => q.elim) : Kp w w1 (fun i => i = g)); have c0 : w1.cell? ⟨g, 0, none⟩ = some (.slice At t.length ct) := blk_cell hr1.b 0; have c2 : w1.cell? ⟨g, 2, none⟩ = some (.bool bad) := blk_cell hr1.b 2; have c3 : w1.cell? ⟨g, 3, none⟩ = some (.int .i64 left) := blk_cell hr1.b 3; have f2 : w1.frozen? ⟨g, 2, none⟩ = false := blk_frozen hr1.b 2; have f3 : w1.frozen? ⟨g, 3, none⟩ = false := blk_frozen hr1.b 3; have z0 : (w1).cell? ⟨gr, 0, none⟩ = some (.string ⟨#[]⟩) := blk_cell hb_gr 0; have z1 : (w1).cell? ⟨gr, 1, none⟩ = some (.slice none 0 0) := blk_cell hb_gr 1; have z2 : (w1).cell? ⟨gr, 2, none⟩ = some (.slice none 0 0) := blk_cell hb_gr 2; have y0 : (w1).frozen? ⟨gr, 0, none⟩ = false := blk_frozen hb_gr 0; have y1 : (w1).frozen? ⟨gr, 1, none⟩ = false := blk_frozen hb_gr 1; have y2 : (w1).frozen? ⟨gr, 2, none⟩ = false := blk_frozen hb_gr 2; have hgne : (gr = g) = False := eq_false (fun e => by have := Hg_gr.out; have := blk_lt HS.out.b; omega); have hgne' : (g = gr) = False := eq_false (fun e => by have := Hg_gr.out; have := blk_lt HS.out.b; omega); clear hr1 hb_gr hk_gr) | ((with_reducible refine gate_callee (f := 46) rfl ?_); refine goesL_ (some 20) rfl rfl Try.func46 (by kernel_rfl) rfl #[.slice At t.length ct] rfl (by simp only [List.map_toArray, List.map_cons, List.map_nil]; rfl) ?_; obtain ⟨r2, k2⟩ := HR1.out.left_ (left - 1); (with_reducible refine (D3.out _ r2.be).mono ?_); rintro e w3 ⟨rfl, hw⟩; refine ⟨_, rfl, ?_⟩; obtain ⟨nq, rfl⟩ := hw.out; have HR3 := Aside0.mk (r2.kp ((Kp.refl _ (fun _ => False)).drewN nq) id (fun _ _ q => q.elim)); have HK3 := Aside0.mk ((HK1.out.trans k2).drewN nq); have HZ3 := Aside0.mk (show ((w1.setCell ⟨g, 3, none⟩ (.int .i64 (left - 1))).drewN nq).heap[gr]? = some (.cells #[.string ⟨#[]⟩, .slice none 0 0, .slice none 0 0] 32 (0, 0)) from (k2.block gr (blk_lt HZ1.out) (of_eq_false hgne)).trans HZ1.out); clear r2 k2 hw HR1 HK1 HZ1) | fail)
        obtain ⟨p1, p2⟩ := HR3.out.bad_ true
        have hN : NL w0 w _ g (fun k => k = gr) t nm true (left - 1) At ct An cn (.slice none 0 0) (.slice none 0 0) [] [] := ⟨p1, Kd.N_nil _ _ _ _ _, Kd.N_nil _ _ _ _ _, HK3.out.trans p2, blk_lt HS.out.b, HS.out.be⟩
        obtain ⟨m1, m2⟩ := rn_end (gr := gr) hN ((p2.block gr (blk_lt HZ3.out) (of_eq_false hgne)).trans HZ3.out) rfl (fun k e => by have := Hg_gr.out; omega) ⟨#[]⟩
        refine bodyPost_ret (results_cell_row rfl _ _ gr 32 (#[.string ⟨#[]⟩, .slice none 0 0, .slice none 0 0]) (0, 0) _ rfl m1 Try.underlying32 rfl (by kernel_rfl)) rfl ?_
        exact m2
      · have e1 : decide (8 < dep) = false := decide_eq_false d8
        by_cases lf : left - 1 < 0
        · rw [if_pos (.inr (.inr lf))] at hr
          have e2 : decide (left - 1 < 0) = true := decide_eq_true lf
          clear o d8 lf
          have hr' : some (nilN, t, true, left - 1) = some (n, t', bad', left') := hr
          obtain ⟨rfl, rfl, rfl, rfl⟩ : nilN = n ∧ t = t' ∧ true = bad' ∧ left - 1 = left' := by simpa using Option.some.inj hr'
          clear hr hr' HX HG
          go_enter Try.func40, Try.ntmps40
          go_wp2_with (first | (((with_reducible refine gate_dst (N := 4) rfl ?_); refine al_ev rfl rfl (N := 4) rfl _ (zero32 _) ?_; intro gr hg_gr w1 hb_gr hk_gr; have Hg_gr := Aside0.mk hg_gr; clear hg_gr); have hr1 := HS.out.kp hk_gr id (fun _ _ q => q.elim); have HR1 := Aside0.mk hr1; have HZ1 := Aside0.mk hb_gr; have HK1 := Aside0.mk (hk_gr.mono (fun _ _ q => q.elim) : Kp w w1 (fun i => i = g)); have c0 : w1.cell? ⟨g, 0, none⟩ = some (.slice At t.length ct) := blk_cell hr1.b 0; have c2 : w1.cell? ⟨g, 2, none⟩ = some (.bool bad) := blk_cell hr1.b 2; have c3 : w1.cell? ⟨g, 3, none⟩ = some (.int .i64 left) := blk_cell hr1.b 3; have f2 : w1.frozen? ⟨g, 2, none⟩ = false := blk_frozen hr1.b 2; have f3 : w1.frozen? ⟨g, 3, none⟩ = false := blk_frozen hr1.b 3; have z0 : (w1).cell? ⟨gr, 0, none⟩ = some (.string ⟨#[]⟩) := blk_cell hb_gr 0; have z1 : (w1).cell? ⟨gr, 1, none⟩ = some (.slice none 0 0) := blk_cell hb_gr 1; have z2 : (w1).cell? ⟨gr, 2, none⟩ = some (.slice none 0 0) := blk_cell hb_gr 2; have y0 : (w1).frozen? ⟨gr, 0, none⟩ = false := blk_frozen hb_gr 0; have y1 : (w1).frozen? ⟨gr, 1, none⟩ = false := blk_frozen hb_gr 1; have y2 : (w1).frozen? ⟨gr, 2, none⟩ = false := blk_frozen hb_gr 2; have hgne : (gr = g) = False := eq_false (fun e => by have := Hg_gr.out; have := blk_lt HS.out.b; omega); have hgne' : (g = gr) = False := eq_false (fun e => by have := Hg_gr.out; have := blk_lt HS.out.b; omega); clear hr1 hb_gr hk_gr) | ((with_reducible refine gate_callee (f := 46) rfl ?_); refine goesL_ (some 20) rfl rfl Try.func46 (by kernel_rfl) rfl #[.slice At t.length ct] rfl (by simp only [List.map_toArray, List.map_cons, List.map_nil]; rfl) ?_; obtain ⟨r2, k2⟩ := HR1.out.left_ (left - 1); (with_reducible refine (D3.out _ r2.be).mono ?_); rintro e w3 ⟨rfl, hw⟩; refine ⟨_, rfl, ?_⟩; obtain ⟨nq, rfl⟩ := hw.out; have HR3 := Aside0.mk (r2.kp ((Kp.refl _ (fun _ => False)).drewN nq) id (fun _ _ q => q.elim)); have HK3 := Aside0.mk ((HK1.out.trans k2).drewN nq); have HZ3 := Aside0.mk (show ((w1.setCell ⟨g, 3, none⟩ (.int .i64 (left - 1))).drewN nq).heap[gr]? = some (.cells #[.string ⟨#[]⟩, .slice none 0 0, .slice none 0 0] 32 (0, 0)) from (k2.block gr (blk_lt HZ1.out) (of_eq_false hgne)).trans HZ1.out); clear r2 k2 hw HR1 HK1 HZ1) | fail)
          obtain ⟨p1, p2⟩ := HR3.out.bad_ true
          have hN : NL w0 w _ g (fun k => k = gr) t nm true (left - 1) At ct An cn (.slice none 0 0) (.slice none 0 0) [] [] := ⟨p1, Kd.N_nil _ _ _ _ _, Kd.N_nil _ _ _ _ _, HK3.out.trans p2, blk_lt HS.out.b, HS.out.be⟩
          obtain ⟨m1, m2⟩ := rn_end (gr := gr) hN ((p2.block gr (blk_lt HZ3.out) (of_eq_false hgne)).trans HZ3.out) rfl (fun k e => by have := Hg_gr.out; omega) ⟨#[]⟩
          refine bodyPost_ret (results_cell_row rfl _ _ gr 32 (#[.string ⟨#[]⟩, .slice none 0 0, .slice none 0 0]) (0, 0) _ rfl m1 Try.underlying32 rfl (by kernel_rfl)) rfl ?_
          exact m2
        · rw [if_neg (by rintro (q | q | q) <;> first | (cases q; done) | omega)] at hr
          have e2 : decide (left - 1 < 0) = false := decide_eq_false lf
          split at hr
          · rename_i hsz0
            have hsz : tx.size < 1000000000000 := hsz0
            clear hsz0
            have HSZ := Aside0.mk (show (tx.size : Int) + 1 < 1099511627776 by omega)
            have s2 : IntKind.i64.wrap ((tx.size : Int) + 1) = (tx.size : Int) + 1 := wr64 (by omega) (by omega)
            have HRR := Aside0.mk hr
            have HT1 := Aside0.mk (show (trest t ((tx.size : Int) + 1)).length < 1099511627776 from by have := trest_len t ((tx.size : Int) + 1); have := HL.out; omega)
            clear hr hsz o d8 lf
            go_enter Try.func40, Try.ntmps40
            go_wp2_with (first | (((with_reducible refine gate_dst (N := 4) rfl ?_); refine al_ev rfl rfl (N := 4) rfl _ (zero32 _) ?_; intro gr hg_gr w1 hb_gr hk_gr; have Hg_gr := Aside0.mk hg_gr; clear hg_gr); have hr1 := HS.out.kp hk_gr id (fun _ _ q => q.elim); have HR1 := Aside0.mk hr1; have HZ1 := Aside0.mk hb_gr; have HK1 := Aside0.mk (hk_gr.mono (fun _ _ q => q.elim) : Kp w w1 (fun i => i = g)); have c0 : w1.cell? ⟨g, 0, none⟩ = some (.slice At t.length ct) := blk_cell hr1.b 0; have c2 : w1.cell? ⟨g, 2, none⟩ = some (.bool bad) := blk_cell hr1.b 2; have c3 : w1.cell? ⟨g, 3, none⟩ = some (.int .i64 left) := blk_cell hr1.b 3; have f2 : w1.frozen? ⟨g, 2, none⟩ = false := blk_frozen hr1.b 2; have f3 : w1.frozen? ⟨g, 3, none⟩ = false := blk_frozen hr1.b 3; have z0 : (w1).cell? ⟨gr, 0, none⟩ = some (.string ⟨#[]⟩) := blk_cell hb_gr 0; have z1 : (w1).cell? ⟨gr, 1, none⟩ = some (.slice none 0 0) := blk_cell hb_gr 1; have z2 : (w1).cell? ⟨gr, 2, none⟩ = some (.slice none 0 0) := blk_cell hb_gr 2; have y0 : (w1).frozen? ⟨gr, 0, none⟩ = false := blk_frozen hb_gr 0; have y1 : (w1).frozen? ⟨gr, 1, none⟩ = false := blk_frozen hb_gr 1; have y2 : (w1).frozen? ⟨gr, 2, none⟩ = false := blk_frozen hb_gr 2; have hgne : (gr = g) = False := eq_false (fun e => by have := Hg_gr.out; have := blk_lt HS.out.b; omega); have hgne' : (g = gr) = False := eq_false (fun e => by have := Hg_gr.out; have := blk_lt HS.out.b; omega); clear hr1 hb_gr hk_gr) | ((with_reducible refine gate_callee (f := 46) rfl ?_); refine goesL_ (some 20) rfl rfl Try.func46 (by kernel_rfl) rfl #[.slice At t.length ct] rfl (by simp only [List.map_toArray, List.map_cons, List.map_nil]; rfl) ?_; obtain ⟨r2, k2⟩ := HR1.out.left_ (left - 1); (with_reducible refine (D3.out _ r2.be).mono ?_); rintro e w3 ⟨rfl, hw⟩; refine ⟨_, rfl, ?_⟩; obtain ⟨nq, rfl⟩ := hw.out; have HR3 := Aside0.mk (r2.kp ((Kp.refl _ (fun _ => False)).drewN nq) id (fun _ _ q => q.elim)); have HK3 := Aside0.mk ((HK1.out.trans k2).drewN nq); have HZ3 := Aside0.mk (show ((w1.setCell ⟨g, 3, none⟩ (.int .i64 (left - 1))).drewN nq).heap[gr]? = some (.cells #[.string ⟨#[]⟩, .slice none 0 0, .slice none 0 0] 32 (0, 0)) from (k2.block gr (blk_lt HZ1.out) (of_eq_false hgne)).trans HZ1.out); clear r2 k2 hw HR1 HK1 HZ1) | ((with_reducible refine gate_callee (f := 47) rfl ?_); refine goesL_ (some 44) rfl rfl Try.func47 (by kernel_rfl) rfl #[.pointer (some ⟨g, 0, none⟩), .int .i64 ((tx.size : Int) + 1)] rfl (by simp only [List.map_toArray, List.map_cons, List.map_nil]; rfl) ?_; (with_reducible refine (rtake_c w0 _ g t nm bad (left - 1) ((tx.size : Int) + 1) At ct An cn HR3.out HL.out HSZ.out).mono ?_); rintro e w4 ⟨Ao, co, At4, ct4, rfl, _, _, hr4, hk4⟩; refine ⟨_, rfl, ?_⟩; have HR4 := Aside0.mk hr4; have HK4 := Aside0.mk (HK3.out.trans hk4); have HZ4 := Aside0.mk ((hk4.block gr (blk_lt HZ3.out) (of_eq_false hgne)).trans HZ3.out); clear hr4 hk4 HR3 HK3 HZ3) | fail)
            have hw4 : w.heap.size ≤ w4.heap.size := HK4.out.size
            have hgr4 : gr < w4.heap.size := blk_lt HZ4.out
            have HN5 := Aside0.mk (show NL w0 w (w4.alloc (.cells #[.string tx, .slice none 0 0, .slice none 0 0] 32)) g (fun k => k = w4.heap.size ∨ k = gr) _ nm _ (left - 1) At4 ct4 An cn (.slice none 0 0) (.slice none 0 0) [] [] from ⟨HR4.out.kp ((Kp.refl w4 (fun _ => False)).alloc _) id (fun _ _ q => q.elim), Kd.N_nil _ _ _ _ _, Kd.N_nil _ _ _ _ _, HK4.out.alloc _, blk_lt HS.out.b, HS.out.be⟩)
            have HB5 := Aside0.mk (show (w4.alloc (.cells #[.string tx, .slice none 0 0, .slice none 0 0] 32)).heap[w4.heap.size]? = some (.cells #[.string tx, .slice none 0 0, .slice none 0 0] 32 (0, 0)) from by simpa using heap_alloc_new w4 _)
            have HZ5 := Aside0.mk (blk_alloc HZ4.out (.cells #[.string tx, .slice none 0 0, .slice none 0 0] 32))
            have HXX := Aside0.mk (show (∀ k, (k = w4.heap.size ∨ k = gr) → w.heap.size ≤ k) ∧ gr ≠ w4.heap.size from ⟨fun k e => by have := Hg_gr.out; omega, by omega⟩)
            clear HR4 HK4 HZ4 c0 c2 c3 f2 f3 z0 z1 z2 y0 y1 y2 hw4 hgr4
            go_loopg [] k (fun kq w' => ∃ (ti : List Int) (bi : Bool) (li : Int) (Ai : Option Addr) (ci : Nat) (v1 v2 : Value) (ps : List S74) (ks : List S32), Aside0 (rloop kq nm dep ti bi li tx ps ks = some (n, t', bad', left')) ∧ Aside0 (kq ≤ k) ∧ Aside0 (ti.length < 1099511627776) ∧ Aside0 (NL w0 w w' g (fun k => k = w4.heap.size ∨ k = gr) ti nm bi li Ai ci An cn v1 v2 ps ks) ∧ Aside0 (w'.heap[w4.heap.size]? = some (.cells #[.string tx, v1, v2] 32 (0, 0))) ∧ Aside0 (w'.heap[gr]? = some (.cells #[.string ⟨#[]⟩, .slice none 0 0, .slice none 0 0] 32 (0, 0))))
            case atStart => exact ⟨_, _, _, _, _, _, _, _, _, HRR, ⟨Nat.le_refl _⟩, HT1, HN5, HB5, HZ5⟩
            case round =>
              clear HRR HT1 HN5 HB5 HZ5
              obtain ⟨ti, bi, li, Ai, ci, v1, v2, ps, ks, HA, HKQ, HTI, HN, HB, HZ⟩ := hrel
              cases gk with
              | zero => exact absurd HA.out (by simp [rloop])
              | succ k1 =>
                have hA := HA.out
                rw [rloop.eq_2] at hA
                obtain ⟨A1, k1c, rfl⟩ := Kd.N_slice HN.out.n1
                obtain ⟨A2, k2c, rfl⟩ := Kd.N_slice HN.out.n2
                have c2 : wr.cell? ⟨g, 2, none⟩ = some (.bool bi) := blk_cell HN.out.rs.b 2
                cases bi with
                | true =>
                  rw [if_pos rfl] at hA
                  obtain ⟨rfl, rfl, rfl, rfl⟩ : (⟨tx, ps, ks⟩ : S32) = n ∧ ti = t' ∧ true = bad' ∧ li = left' := by simpa using Option.some.inj hA
                  clear hA HA
                  have e0 : (wr).cell? ⟨w4.heap.size, 0, none⟩ = some (.string tx) := blk_cell HB.out 0; have e1 : (wr).cell? ⟨w4.heap.size, 1, none⟩ = some (.slice A1 ps.length k1c) := blk_cell HB.out 1; have e2 : (wr).cell? ⟨w4.heap.size, 2, none⟩ = some (.slice A2 ks.length k2c) := blk_cell HB.out 2; have z0 : (wr).cell? ⟨gr, 0, none⟩ = some (.string ⟨#[]⟩) := blk_cell HZ.out 0; have z1 : (wr).cell? ⟨gr, 1, none⟩ = some (.slice none 0 0) := blk_cell HZ.out 1; have z2 : (wr).cell? ⟨gr, 2, none⟩ = some (.slice none 0 0) := blk_cell HZ.out 2; have y0 : (wr).frozen? ⟨gr, 0, none⟩ = false := blk_frozen HZ.out 0; have y1 : (wr).frozen? ⟨gr, 1, none⟩ = false := blk_frozen HZ.out 1; have y2 : (wr).frozen? ⟨gr, 2, none⟩ = false := blk_frozen HZ.out 2; 
                  go_wp2
                  obtain ⟨m1, m2⟩ := rn_end (gr := gr) HN.out HZ.out (.inr rfl) HXX.out.1 tx
                  refine bodyPost_ret (results_cell_row rfl _ _ gr 32 (#[.string tx, .slice A1 ps.length k1c, .slice A2 ks.length k2c]) (0, 0) _ rfl m1 Try.underlying32 rfl (by kernel_rfl)) rfl ?_
                  exact m2
                | false =>
                  rw [if_neg (by decide)] at hA
                  have D6 : ∃ v t6 b6, v = wv ti ∧ t6 = rw4 ti ∧ b6 = rbad ti false ∧ Aside0 (Calls Try.prog 38 #[.pointer (some ⟨g, 0, none⟩)] wr fun e w2 => ∃ At' ct', e = .returned (.int .u32 v) ∧ Rs w0 w2 g t6 nm b6 li At' ct' An cn ∧ Kp wr w2 (fun i => i = g)) := ⟨_, _, _, rfl, rfl, rfl, ⟨rword_c w0 wr g ti nm false li Ai ci An cn HN.out.rs HTI.out⟩⟩
                  obtain ⟨v, t6, b6, hv, ht6, hb6, D6⟩ := D6
                  have HT6 := Aside0.mk (show t6.length < 1099511627776 from by rw [ht6]; have := rw4_len ti; have := HTI.out; omega)
                  rw [← hv, ← ht6, ← hb6] at hA
                  have HNE := Aside0.mk (show w4.heap.size ≠ g ∧ gr ≠ g from ⟨fun e => by have := HXX.out.1 w4.heap.size (.inl rfl); have := HN.out.gl; omega, of_eq_false hgne⟩)
                  clear hv ht6 hb6 HA
                  by_cases v3 : v = 3
                  · subst v3
                    rw [if_pos rfl] at hA
                    obtain ⟨⟨pn, pd, t7, b7⟩, hp, hA⟩ := Option.bind_eq_some_iff.mp hA
                    split at hA
                    · rename_i hpl
                      have HA2 := Aside0.mk (show rloop k1 nm dep t7 b7 li tx (ps ++ [⟨pn, pd⟩]) ks = some (n, t', bad', left') from hA)
                      have HP := Aside0.mk (show rprop k1 t6 nm b6 = some (pn, pd, t7, b7) from hp)
                      have HPL := Aside0.mk hpl
                      have HT7 := Aside0.mk (show t7.length < 1099511627776 from by have := rprop_len hp; have := HT6.out; dsimp only at *; omega)
                      clear hA hp hpl
                      go_wp2_with (first | ((with_reducible refine gate_callee (f := 38) rfl ?_); refine goesL_ (some 53) rfl rfl Try.func38 (by kernel_rfl) rfl #[.pointer (some ⟨g, 0, none⟩)] rfl (by simp only [List.map_toArray, List.map_cons, List.map_nil]; rfl) ?_; (with_reducible refine D6.out.mono ?_); rintro e w6 ⟨At6, ct6, rfl, hr6, hk6⟩; refine ⟨_, rfl, ?_⟩; have HN6 := Aside0.mk (HN.out.move hk6 (fun k e => .inl e) HXX.out.1 hr6); have hb6 := (hk6.block _ (blk_lt HB.out) HNE.out.1).trans HB.out; have hz6 := (hk6.block _ (blk_lt HZ.out) HNE.out.2).trans HZ.out; have HB6 := Aside0.mk hb6; have HZ6 := Aside0.mk hz6; have e1 : w6.cell? ⟨w4.heap.size, 1, none⟩ = some (.slice A1 ps.length k1c) := blk_cell hb6 1; clear hr6 hk6 hb6 hz6 HN HB HZ) | fail)
                      go_region_law (first | (refine goes_ (N := some 62) Try.func48 (by kernel_rfl) rfl #[.pointer (some ⟨g, 0, none⟩)] (by rfl) rfl (by rfl) (by simp only [List.map_toArray, List.map_cons, List.map_nil]; rfl) ?_; (refine (rprop_c k1 w0 w6.drew g t6 nm b6 li _ _ An cn (HN6.out.rs.kp ((Kp.refl w6 (fun _ => False)).drew) id (fun _ _ q => q.elim)) HT6.out HNL.out pn pd t7 b7 HP.out).mono ?_); rintro e w7 ⟨vd, At7, ct7, rfl, hvd, hr7, hk7⟩; refine ⟨_, rfl, ?_⟩; obtain ⟨Ad, cd, rfl⟩ := Kd.R_slice hvd; have hk67 := ((Kp.refl w6 (fun i => i = g)).drew).trans hk7; have HN7 := Aside0.mk (HN6.out.move hk67 (fun k e => .inl e) HXX.out.1 hr7); have hb7 := (hk67.block _ (blk_lt HB6.out) HNE.out.1).trans HB6.out; have hz7 := (hk67.block _ (blk_lt HZ6.out) HNE.out.2).trans HZ6.out; have k7 : w7.cell? ⟨w4.heap.size, 1, none⟩ = some (.slice A1 ps.length k1c) := blk_cell hb7 1; have k7a : (w7.alloc (Obj.cells #[.string pn, .slice Ad pd.length cd] 74)).cell? ⟨w4.heap.size, 1, none⟩ = some (.slice A1 ps.length k1c) := blk_cell (blk_alloc hb7 _) 1; have HB7 := Aside0.mk hb7; have HZ7 := Aside0.mk hz7; have HV7 := Aside0.mk hvd; have HS7 := Aside0.mk hk67.size; clear hr7 hk7 hb7 hz7 hvd hk67) | (refine Kd.N_append_step k74 (w0 := w0) w0.heap.size (by rfl) (.tmp 60) (.tmp 63) 29 74 (.agg #[(.string ⟨#[]⟩), (.slice none 0 0)]) 40 rfl Try.underlying29 info74 rfl (by decide) (by omega) (.slice A1 ps.length k1c) ps (⟨pn, pd⟩ : S74) [.string pn, .slice Ad pd.length cd] (fun k => (w.heap.size ≤ k ∧ ¬ (k = w4.heap.size ∨ k = gr)) ∧ some k ≠ (Value.slice A2 ks.length k2c).ownBlock) (fun k => (fun k => (w.heap.size ≤ k ∧ ¬ (k = w4.heap.size ∨ k = gr)) ∧ some k ≠ (Value.slice A2 ks.length k2c).ownBlock) k ∧ some k ≠ (Value.slice A1 ps.length k1c).ownBlock) rfl rfl ?aP (fun _ hk => hk) ?aF ?aO ?aB ?aS ?aL ?_; (case aP => exact (k74_mkF _ _ (⟨pn, pd⟩ : S74) (Kd.V_reads' (Kd.R_V (base' := 0) HV7.out)).2.1 (Kd.F_mono (Kd.R_F (Kd.R_tight (d := U8) rfl HV7.out)) (fun k e => fresh_ok HN6.out HB6.out HZ6.out k (HV7.out.1 k e.symm))))); (case aF => exact (fun k hk => (fresh_ok HN6.out HB6.out HZ6.out k (Nat.le_trans HS7.out hk)).1)); (case aO => exact HN7.out.n1); (case aB => exact HN7.out.rs.be); (case aS => exact HN7.out.rs.be.size); (case aL => have := HPL.out; omega); intro v8 w8 hn8 hb8 hg8 hat8; obtain ⟨A8, c8, rfl⟩ := Kd.N_slice hn8; have hb8' := blk_grown HB7.out hg8 (fun e => (HN7.out.n1.1 _ e.symm).1.2 (.inl rfl)); have hz8 := blk_grown HZ7.out hg8 (fun e => (HN7.out.n1.1 _ e.symm).1.2 (.inr rfl)); have HN8 := Aside0.mk (HN7.out.app1 hn8 hb8 hg8 hat8 (fun e => by have := (HN7.out.n1.1 _ e.symm).1.1; have := HN7.out.gl; omega)); have k8 : w8.cell? ⟨w4.heap.size, 1, none⟩ = some (.slice A1 ps.length k1c) := blk_cell hb8' 1; have f8 : w8.frozen? ⟨w4.heap.size, 1, none⟩ = false := blk_frozen hb8' 1; have HB8 := Aside0.mk hb8'; have HZ8 := Aside0.mk hz8; clear hn8 hb8 hg8 hat8 hb8' hz8) | fail)
                      all_goals
                        go_wp2
                        have hln : (ps ++ [(⟨pn, pd⟩ : S74)]).length = ps.length + 1 := by simp
                        have hn8 := HN8.out
                        rw [hln] at hn8
                        obtain ⟨m1, m2⟩ := put_at HB8.out 1 (.slice A8 (ps.length + 1) c8) (#[.string tx, .slice A8 (ps.length + 1) c8, .slice A2 ks.length k2c]) rfl
                        have HN9 := Aside0.mk (hn8.move m2 (fun k e => .inr (.inl e)) HXX.out.1 (hn8.rs.kp m2 (fun e => HNE.out.1 e.symm) (fun k hk e => by have := HXX.out.1 k (.inl e); have := HS.out.be.size; omega)))
                        have HB9 := Aside0.mk m1
                        have HZ9 := Aside0.mk ((m2.block gr (blk_lt HZ8.out) HXX.out.2).trans HZ8.out)
                        clear hn8 m1 m2 hln
                        go_roundg k1
                        case measure => omega
                        case rel => exact ⟨_, _, _, _, _, _, _, _, _, HA2, ⟨by have := HKQ.out; omega⟩, HT7, HN9, HB9, HZ9⟩
                    · cases hA
                  · rw [if_neg v3] at hA
                    have g3 : (v == 3) = false := beq_eq_false_iff_ne.mpr v3
                    by_cases v1_ : v = 1
                    · subst v1_
                      rw [if_pos rfl] at hA
                      obtain ⟨⟨nn, t7, b7, l7⟩, hp, hA⟩ := Option.bind_eq_some_iff.mp hA
                      split at hA
                      · rename_i hpl
                        have HA2 := Aside0.mk (show rloop k1 nm dep t7 b7 l7 tx ps (ks ++ [nn]) = some (n, t', bad', left') from hA)
                        have HP := Aside0.mk (show rnode k1 nm (dep + 1) t6 b6 li = some (nn, t7, b7, l7) from hp)
                        have HPL := Aside0.mk hpl
                        have HT7 := Aside0.mk (show t7.length < 1099511627776 from by have := (rn_len k1).2 _ _ _ _ _ _ hp; have := HT6.out; dsimp only at *; omega)
                        have s3 : IntKind.i64.wrap (dep + 1) = dep + 1 := wr64 (by have := HG.out; omega) (by have := HG.out; omega)
                        clear hA hp hpl v3
                        go_wp2_with (first | ((with_reducible refine gate_callee (f := 38) rfl ?_); refine goesL_ (some 53) rfl rfl Try.func38 (by kernel_rfl) rfl #[.pointer (some ⟨g, 0, none⟩)] rfl (by simp only [List.map_toArray, List.map_cons, List.map_nil]; rfl) ?_; (with_reducible refine D6.out.mono ?_); rintro e w6 ⟨At6, ct6, rfl, hr6, hk6⟩; refine ⟨_, rfl, ?_⟩; have HN6 := Aside0.mk (HN.out.move hk6 (fun k e => .inl e) HXX.out.1 hr6); have hb6 := (hk6.block _ (blk_lt HB.out) HNE.out.1).trans HB.out; have hz6 := (hk6.block _ (blk_lt HZ.out) HNE.out.2).trans HZ.out; have HB6 := Aside0.mk hb6; have HZ6 := Aside0.mk hz6; have e1 : w6.cell? ⟨w4.heap.size, 2, none⟩ = some (.slice A2 ks.length k2c) := blk_cell hb6 2; clear hr6 hk6 hb6 hz6 HN HB HZ) | fail)
                        go_region_law (first | (refine goes_ (N := some 73) Try.func40 (by kernel_rfl) rfl #[.pointer (some ⟨g, 0, none⟩), .int .i64 (dep + 1)] (by rfl) rfl (by rfl) (by simp only [List.map_toArray, List.map_cons, List.map_nil]; rfl) ?_; (refine (IH.out k1 (by have := HKQ.out; omega) w6.drew g t6 nm b6 li (dep + 1) _ _ An cn (HN6.out.rs.kp ((Kp.refl w6 (fun _ => False)).drew) id (fun _ _ q => q.elim)) HT6.out HNL.out nn t7 b7 l7 HP.out).mono ?_); rintro e w7 ⟨va, vb, At7, ct7, rfl, hna, hnb, hr7, hk7⟩; refine ⟨_, rfl, ?_⟩; obtain ⟨Aa, ca, rfl⟩ := Kd.N_slice hna; obtain ⟨Ab, cb, rfl⟩ := Kd.N_slice hnb; have hk67 := ((Kp.refl w6 (fun i => i = g)).drew).trans hk7; have HN7 := Aside0.mk (HN6.out.move hk67 (fun k e => .inl e) HXX.out.1 hr7); have hb7 := (hk67.block _ (blk_lt HB6.out) HNE.out.1).trans HB6.out; have hz7 := (hk67.block _ (blk_lt HZ6.out) HNE.out.2).trans HZ6.out; have k7 : w7.cell? ⟨w4.heap.size, 2, none⟩ = some (.slice A2 ks.length k2c) := blk_cell hb7 2; have k7a : (w7.alloc (Obj.cells #[.string nn.f0, .slice Aa nn.f1.length ca, .slice Ab nn.f2.length cb] 32)).cell? ⟨w4.heap.size, 2, none⟩ = some (.slice A2 ks.length k2c) := blk_cell (blk_alloc hb7 _) 2; have HB7 := Aside0.mk hb7; have HZ7 := Aside0.mk hz7; have HVA := Aside0.mk hna; have HVB := Aside0.mk hnb; have HS7 := Aside0.mk hk67.size; clear hr7 hk7 hb7 hz7 hna hnb hk67) | (refine Kd.N_append_step k32 (w0 := w0) w0.heap.size (by rfl) (.tmp 69) (.tmp 74) 30 32 (.agg #[(.string ⟨#[]⟩), (.slice none 0 0), (.slice none 0 0)]) 64 rfl Try.underlying30 info32 rfl (by decide) (by omega) (.slice A2 ks.length k2c) ks nn [.string nn.f0, .slice Aa nn.f1.length ca, .slice Ab nn.f2.length cb] (fun k => (w.heap.size ≤ k ∧ ¬ (k = w4.heap.size ∨ k = gr)) ∧ some k ≠ (Value.slice A1 ps.length k1c).ownBlock) (fun k => (fun k => (w.heap.size ≤ k ∧ ¬ (k = w4.heap.size ∨ k = gr)) ∧ some k ≠ (Value.slice A1 ps.length k1c).ownBlock) k ∧ some k ≠ (Value.slice A2 ks.length k2c).ownBlock) rfl rfl ?aP (fun _ hk => hk) ?aF ?aO ?aB ?aS ?aL ?_; (case aP => exact (k32_mkF _ _ nn (Kd.N_reads' HVA.out).2.1 (Kd.F_mono (Kd.N_F HVA.out) (fun k e => have q := fresh_ok HN6.out HB6.out HZ6.out k e.1; ⟨⟨q.1.1, q.2⟩, q.1.2⟩)) (Kd.N_reads' HVB.out).2.1 (Kd.F_mono (Kd.N_F HVB.out) (fun k e => have q := fresh_ok HN6.out HB6.out HZ6.out k e.1; ⟨⟨q.1.1, q.2⟩, q.1.2⟩)))); (case aF => exact (fun k hk => have q := fresh_ok HN6.out HB6.out HZ6.out k (Nat.le_trans HS7.out hk); ⟨q.1.1, q.2⟩)); (case aO => exact HN7.out.n2); (case aB => exact HN7.out.rs.be); (case aS => exact HN7.out.rs.be.size); (case aL => have := HPL.out; omega); intro v8 w8 hn8 hb8 hg8 hat8; obtain ⟨A8, c8, rfl⟩ := Kd.N_slice hn8; have hb8' := blk_grown HB7.out hg8 (fun e => (HN7.out.n2.1 _ e.symm).1.2 (.inl rfl)); have hz8 := blk_grown HZ7.out hg8 (fun e => (HN7.out.n2.1 _ e.symm).1.2 (.inr rfl)); have HN8 := Aside0.mk (HN7.out.app2 hn8 hb8 hg8 hat8 (fun e => by have := (HN7.out.n2.1 _ e.symm).1.1; have := HN7.out.gl; omega)); have k8 : w8.cell? ⟨w4.heap.size, 2, none⟩ = some (.slice A2 ks.length k2c) := blk_cell hb8' 2; have f8 : w8.frozen? ⟨w4.heap.size, 2, none⟩ = false := blk_frozen hb8' 2; have HB8 := Aside0.mk hb8'; have HZ8 := Aside0.mk hz8; clear hn8 hb8 hg8 hat8 hb8' hz8) | fail)
                        all_goals
                          go_wp2
                          have hln : (ks ++ [nn]).length = ks.length + 1 := by simp
                          have hn8 := HN8.out
                          rw [hln] at hn8
                          obtain ⟨m1, m2⟩ := put_at HB8.out 2 (.slice A8 (ks.length + 1) c8) (#[.string tx, .slice A1 ps.length k1c, .slice A8 (ks.length + 1) c8]) rfl
                          have HN9 := Aside0.mk (hn8.move m2 (fun k e => .inr (.inl e)) HXX.out.1 (hn8.rs.kp m2 (fun e => HNE.out.1 e.symm) (fun k hk e => by have := HXX.out.1 k (.inl e); have := HS.out.be.size; omega)))
                          have HB9 := Aside0.mk m1
                          have HZ9 := Aside0.mk ((m2.block gr (blk_lt HZ8.out) HXX.out.2).trans HZ8.out)
                          clear hn8 m1 m2 hln
                          go_roundg k1
                          case measure => omega
                          case rel => exact ⟨_, _, _, _, _, _, _, _, _, HA2, ⟨by have := HKQ.out; omega⟩, HT7, HN9, HB9, HZ9⟩
                      · cases hA
                    · rw [if_neg v1_] at hA
                      have g1 : (v == 1) = false := beq_eq_false_iff_ne.mpr v1_
                      by_cases v2_ : v = 2
                      · subst v2_
                        rw [if_pos rfl] at hA
                        obtain ⟨rfl, rfl, rfl, rfl⟩ : (⟨tx, ps, ks⟩ : S32) = n ∧ t6 = t' ∧ b6 = bad' ∧ li = left' := by simpa using Option.some.inj hA
                        clear hA v3 v1_
                        go_wp2_with (first | ((with_reducible refine gate_callee (f := 38) rfl ?_); refine goesL_ (some 53) rfl rfl Try.func38 (by kernel_rfl) rfl #[.pointer (some ⟨g, 0, none⟩)] rfl (by simp only [List.map_toArray, List.map_cons, List.map_nil]; rfl) ?_; (with_reducible refine D6.out.mono ?_); rintro e w6 ⟨At6, ct6, rfl, hr6, hk6⟩; refine ⟨_, rfl, ?_⟩; have HN6 := Aside0.mk (HN.out.move hk6 (fun k e => .inl e) HXX.out.1 hr6); have hb6 := (hk6.block _ (blk_lt HB.out) HNE.out.1).trans HB.out; have hz6 := (hk6.block _ (blk_lt HZ.out) HNE.out.2).trans HZ.out; have HB6 := Aside0.mk hb6; have HZ6 := Aside0.mk hz6; have e0 : (w6).cell? ⟨w4.heap.size, 0, none⟩ = some (.string tx) := blk_cell hb6 0; have e1 : (w6).cell? ⟨w4.heap.size, 1, none⟩ = some (.slice A1 ps.length k1c) := blk_cell hb6 1; have e2 : (w6).cell? ⟨w4.heap.size, 2, none⟩ = some (.slice A2 ks.length k2c) := blk_cell hb6 2; have z0 : (w6).cell? ⟨gr, 0, none⟩ = some (.string ⟨#[]⟩) := blk_cell hz6 0; have z1 : (w6).cell? ⟨gr, 1, none⟩ = some (.slice none 0 0) := blk_cell hz6 1; have z2 : (w6).cell? ⟨gr, 2, none⟩ = some (.slice none 0 0) := blk_cell hz6 2; have y0 : (w6).frozen? ⟨gr, 0, none⟩ = false := blk_frozen hz6 0; have y1 : (w6).frozen? ⟨gr, 1, none⟩ = false := blk_frozen hz6 1; have y2 : (w6).frozen? ⟨gr, 2, none⟩ = false := blk_frozen hz6 2; clear hr6 hk6 hb6 hz6 HN HB HZ) | fail)
                        obtain ⟨m1, m2⟩ := rn_end (gr := gr) HN6.out HZ6.out (.inr rfl) HXX.out.1 tx
                        refine bodyPost_ret (results_cell_row rfl _ _ gr 32 (#[.string tx, .slice A1 ps.length k1c, .slice A2 ks.length k2c]) (0, 0) _ rfl m1 Try.underlying32 rfl (by kernel_rfl)) rfl ?_
                        exact m2
                      · rw [if_neg v2_] at hA
                        have g2 : (v == 2) = false := beq_eq_false_iff_ne.mpr v2_
                        have HA2 := Aside0.mk hA
                        clear hA v3 v1_ v2_
                        go_wp2_with (first | ((with_reducible refine gate_callee (f := 38) rfl ?_); refine goesL_ (some 53) rfl rfl Try.func38 (by kernel_rfl) rfl #[.pointer (some ⟨g, 0, none⟩)] rfl (by simp only [List.map_toArray, List.map_cons, List.map_nil]; rfl) ?_; (with_reducible refine D6.out.mono ?_); rintro e w6 ⟨At6, ct6, rfl, hr6, hk6⟩; refine ⟨_, rfl, ?_⟩; have HN6 := Aside0.mk (HN.out.move hk6 (fun k e => .inl e) HXX.out.1 hr6); have hb6 := (hk6.block _ (blk_lt HB.out) HNE.out.1).trans HB.out; have hz6 := (hk6.block _ (blk_lt HZ.out) HNE.out.2).trans HZ.out; have HB6 := Aside0.mk hb6; have HZ6 := Aside0.mk hz6; have c26 : w6.cell? ⟨g, 2, none⟩ = some (.bool b6) := blk_cell hr6.b 2; have f26 : w6.frozen? ⟨g, 2, none⟩ = false := blk_frozen hr6.b 2; clear hr6 hk6 hb6 hz6 HN HB HZ) | fail)
                        obtain ⟨r7, k7⟩ := HN6.out.rs.bad_ true
                        have HN7 := Aside0.mk (HN6.out.move k7 (fun k e => .inl e) HXX.out.1 r7)
                        have HB7 := Aside0.mk ((k7.block _ (blk_lt HB6.out) HNE.out.1).trans HB6.out)
                        have HZ7 := Aside0.mk ((k7.block _ (blk_lt HZ6.out) HNE.out.2).trans HZ6.out)
                        clear r7 k7
                        go_roundg k1
                        case measure => omega
                        case rel => exact ⟨_, _, _, _, _, _, _, _, _, HA2, ⟨by have := HKQ.out; omega⟩, HT6, HN7, HB7, HZ7⟩
          · cases hr
  · cases hr
end Go.Proofs.Ytmhlellhfepkkaa.B
