/- CsrPlays, walked by hand: any writes of any registers leave what is kept as the document says. -/
import Derived.Test.YtkbnoeebnmphbaaHplain08
namespace Go.Proofs.Ytkbnoeebnmphbaa.H
open Go.RowKit Go.Proofs.YtkbnoeebnmphbaaW.PrintWords Go.Proofs.YtkbnoeebnmphbaaW.PrintLast Go.Proofs.Ytkbnoeebnmphbaa.PAl Go.Proofs.Ytkbnoeebnmphbaa.Pure Go.Proofs.Ytkbnoeebnmphbaa.Vw
set_option linter.unusedVariables false
set_option linter.unusedSimpArgs false
theorem st_start {w : World} {g : Nat} {m : Int} {A : Option Addr} {n c : Nat} {l : Int} (h : w.heap[g]? = some (.cells (startC m A n c l) 32 (0, 0))) :
    w.cell? ⟨g, 0, none⟩ = some (.int .i64 m) ∧ w.cell? ⟨g, 1, none⟩ = some (.slice A n c) ∧ w.cell? ⟨g, 2, none⟩ = some (.int .u64 l) :=
  ⟨blk_cell h 0, blk_cell h 1, blk_cell h 2⟩
theorem infoS : (Try.prog.info? 32).map (·.size) = some 3 := by kernel_rfl
set_option maxHeartbeats 8000000 in
set_option maxRecDepth 100000 in
theorem plays_c (m : Int) (A : Option Addr) (c : Nat) (l : Nat) (xs : List WR) (w : World) (hC : Kd.C k62 w A xs.length xs) (hx : wrOk xs) (hl : U l) :
    Calls Try.prog 4 #[.agg (startC m A xs.length c (l : Int))] w fun e w' => e = .returned (.bool true) ∧ Below w.heap.size w w' := by
  by_cases hb : bgOk m xs.length
  · have Hb := Aside0.mk hb
    have hsame := (Rel.bg hx m l).same
    have Hsm := Aside0.mk hsame
    clear hb hsame
    go_enter Try.func4, Try.ntmps4
    go_wp2_with (first
      | ((with_reducible refine gate_dst (N := 1) rfl ?_); refine bx_ev rfl rfl (N := 1) rfl (startC m A xs.length c (l : Int)) rfl ?_; intro g hg_g w1 hb_g hk_g; have Hg_g := Aside0.mk hg_g; clear hg_g)
      | (go_at_call 10; refine (awake_c _).mono ?_; rintro e w2 ⟨rfl, hk2⟩; have hG2 := (Bk.mk hb_g).kp hk2 (fun h => h); have hC2 : Kd.C k62 w2 A xs.length xs := Kd.C_below hC ((hk_g.trans hk2).below (fun _ _ h => h.elim) (Nat.le_refl _)))
      | ((with_reducible refine gate_dst (N := 9) rfl ?_); refine wpList_load_row rfl 32 _ rfl g rfl _ (startC m A xs.length c (l : Int)) (0, 0) _ (hG2.blk) Try.underlying32 rfl infoS ?_)
      | (go_at_call 12; refine (begun_yes m A c l xs _ Hb.out hC2 hx hl).mono ?_; rintro e w3 ⟨rfl, hk3⟩)
      | ((with_reducible refine gate_dst (N := 3) rfl ?_); refine al_ev rfl rfl (N := 3) rfl _ (zeroF _) ?_; intro f hg_f w4 hb_f hk_f; have Hg_f := Aside0.mk hg_f; clear hg_f)
      | ((with_reducible refine gate_dst (N := 4) rfl ?_); refine al_ev rfl rfl (N := 4) rfl _ (zeroR _) ?_; intro p hg_p w5 hb_p hk_p; have Hg_p := Aside0.mk hg_p; clear hg_p)
      | (((with_reducible refine gate_store (t := 35) (p := 3) rfl ?_); refine st_ev rfl rfl rfl f ((bgF m xs l).cells) _ _ rfl rfl (((Bk.mk hb_f).kp hk_p (fun h => h)).blk) infoF rfl (VS.one _) ?_; intro w6 hs_w6 ks_w6); have hpf : p ≠ f := (by have := Hg_p.out; have := blk_lt hb_f; omega); have hP6 := (Bk.mk hb_p).kp ks_w6 hpf)
      | (((with_reducible refine gate_store (t := 38) (p := 4) rfl ?_); refine st_ev rfl rfl rfl p ((bgR m xs l).cells) _ _ rfl rfl (hP6.blk) infoR rfl (VS.one _) ?_; intro w7 hs_w7 ks_w7); have hF7 := (Bk.mk hs_w6).kp ks_w7 (fun e : f = p => hpf e.symm))
      | ((with_reducible refine gate_dst (N := 17) rfl ?_); refine wpList_in (by rfl) (wp_load_row FT _ rfl f rfl _ (bgF m xs l).cells (0, 0) _ hF7.blk Try.underlying35 rfl infoF ?_))
      | ((with_reducible refine gate_dst (N := 18) rfl ?_); refine wpList_in (by rfl) (wp_load_row RT _ rfl p rfl _ (bgR m xs l).cells (0, 0) _ hs_w7 Try.underlying38 rfl infoR ?_))
      | (go_at_call 13; refine (same_c _ _ _).mono ?_; rw [Hsm.out]; rintro e w8 ⟨rfl, hk8⟩))
    go_ret
    have K5 : KpN w w5 := (((hk_g.trans hk2).trans hk3).trans hk_f).trans hk_p
    have hfw : w.heap.size ≤ f := by have := Hg_f.out; have := ((hk_g.trans hk2).trans hk3).size; omega
    have hpw : w.heap.size ≤ p := by have := Hg_p.out; have := (((hk_g.trans hk2).trans hk3).trans hk_f).size; omega
    have K8 : KpN w w8 := ((K5.then ks_w6 fun i hi (e : i = f) => by omega).then ks_w7 fun i hi (e : i = p) => by omega).trans hk8
    exact ⟨rfl, K8.below (fun _ _ h => h.elim) (Nat.le_refl _)⟩
  · have Hb := Aside0.mk hb
    clear hb
    go_enter Try.func4, Try.ntmps4
    go_wp2_with (first
      | ((with_reducible refine gate_dst (N := 1) rfl ?_); refine bx_ev rfl rfl (N := 1) rfl (startC m A xs.length c (l : Int)) rfl ?_; intro g hg_g w1 hb_g hk_g; have Hg_g := Aside0.mk hg_g; clear hg_g)
      | (go_at_call 10; refine (awake_c _).mono ?_; rintro e w2 ⟨rfl, hk2⟩; have hG2 := (Bk.mk hb_g).kp hk2 (fun h => h))
      | ((with_reducible refine gate_dst (N := 9) rfl ?_); refine wpList_load_row rfl 32 _ rfl g rfl _ (startC m A xs.length c (l : Int)) (0, 0) _ (hG2.blk) Try.underlying32 rfl infoS ?_)
      | (go_at_call 12; refine (begun_no m A c l xs _ Hb.out).mono ?_; rintro e w3 ⟨rfl, hk3⟩)
      | ((with_reducible refine gate_dst (N := 3) rfl ?_); refine al_ev rfl rfl (N := 3) rfl _ (zeroF _) ?_; intro f hg_f w4 hb_f hk_f; have Hg_f := Aside0.mk hg_f; clear hg_f)
      | ((with_reducible refine gate_dst (N := 4) rfl ?_); refine al_ev rfl rfl (N := 4) rfl _ (zeroR _) ?_; intro p hg_p w5 hb_p hk_p; have Hg_p := Aside0.mk hg_p; clear hg_p)
      | (((with_reducible refine gate_store (t := 35) (p := 3) rfl ?_); refine st_ev rfl rfl rfl f (vs0.cells) _ _ rfl rfl (((Bk.mk hb_f).kp hk_p (fun h => h)).blk) infoF rfl (VS.one _) ?_; intro w6 hs_w6 ks_w6); have hpf : p ≠ f := (by have := Hg_p.out; have := blk_lt hb_f; omega); have hP6 := (Bk.mk hb_p).kp ks_w6 hpf)
      | ((with_reducible refine gate_store (t := 38) (p := 4) rfl ?_); refine st_ev rfl rfl rfl p (vs0.cells) _ _ rfl rfl (hP6.blk) infoR rfl (VS.one _) ?_; intro w7 hs_w7 ks_w7))
    go_ret
    have K5 : KpN w w5 := (((hk_g.trans hk2).trans hk3).trans hk_f).trans hk_p
    have hfw : w.heap.size ≤ f := by have := Hg_f.out; have := ((hk_g.trans hk2).trans hk3).size; omega
    have hpw : w.heap.size ≤ p := by have := Hg_p.out; have := (((hk_g.trans hk2).trans hk3).trans hk_f).size; omega
    have K8 : KpN w w7 := (K5.then ks_w6 fun i hi (e : i = f) => by omega).then ks_w7 fun i hi (e : i = p) => by omega
    exact ⟨rfl, K8.below (fun _ _ h => h.elim) (Nat.le_refl _)⟩
end Go.Proofs.Ytkbnoeebnmphbaa.H
