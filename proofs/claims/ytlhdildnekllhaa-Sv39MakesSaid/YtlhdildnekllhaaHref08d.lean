/- The document's answer for the registers (vireoref08), walked by hand: its writes, the rest. -/
import Derived.Test.YtlhdildnekllhaaHref08c
import Derived.Deep.RegionWith
namespace Go.Proofs.Ytlhdildnekllhaa.H
open Go.RowKit Go.Proofs.YtlhdildnekllhaaW.PrintWords Go.Proofs.YtlhdildnekllhaaW.PrintLast Go.Proofs.Ytlhdildnekllhaa.PAl Go.Proofs.Ytlhdildnekllhaa.Pure Go.Proofs.Ytlhdildnekllhaa.Vw
set_option linter.unusedVariables false
set_option linter.unusedSimpArgs false
set_option maxHeartbeats 8000000 in
set_option maxRecDepth 100000 in
theorem rwrite_c4 (s : VS) (x : Nat) (w : World) (hs : s.ok) (hx : U x) :
    Calls Try.prog 43 #[.agg s.cells, .int .i64 324, .int .u64 (x : Int)] w fun e w' => e = .returned (.agg (s.set 2 (mixW (s.r 2) x (s.r 5 &&& 2))).cells) ∧ KpN w w' := by
  go_enter Try.func43, Try.ntmps43
  go_wp2_with (first | ((with_reducible refine gate_dst (N := 3) rfl ?_); refine bx_ev rfl rfl (N := 3) rfl (s.cells) rfl ?_; intro g hg_g w1 hb_g hk_g; have Hg_g := Aside0.mk hg_g; clear hg_g) | (((with_reducible refine gate_dst (N := 6) rfl ?_); refine al_ev rfl rfl (N := 6) rfl _ (zeroR _) ?_; intro h hg_h w2 hb_h hk_h; have Hg_h := Aside0.mk hg_h; clear hg_h); have hI2 : St RT w2 g s := (St.mk hb_g).kp hk_h (fun h => h); have c2 := hI2.c 2; have c5 := hI2.c 5; have f2 := hI2.f 2))
  have hgh : h ≠ g := by have := Hg_h.out; have := blk_lt hb_g; omega
  have hgw : w.heap.size ≤ g := by have := Hg_g.out; omega
  have hhw : w.heap.size ≤ h := by have := Hg_h.out; have := hk_g.size; omega
  have hR2 : St RT w2 h (VS.mk 0 fun _ => 0) := St.mk hb_h
  have K2 := hk_g.trans hk_h
  clear hb_g hb_h hk_g hk_h Hg_g Hg_h
  go_region_with (first
    | (go_at_call 45; refine (and_rl (s.r 5) 2 _ (hs 5) (by decide)).mono ?_; rintro e w3 ⟨rfl, hk3⟩; have hI3 : St RT w3 g s := hI2.drew.kp hk3 (fun h => h); have c2b := hI3.c 2; have f2b := hI3.f 2)
    | (go_at_call 70; refine (mix_r (s.r 2) x (s.r 5 &&& 2) _ (hs 2) hx (hs 5).and).mono ?_; rintro e w4 ⟨rfl, hk4⟩; have hI4 : St RT w4 g s := hI3.kp hk4 (fun h => h); have c2c := hI4.c 2; have f2c := hI4.f 2))
  all_goals
    have hR4 : St RT w4 h (VS.mk 0 fun _ => 0) := (hR2.drew.kp hk3 (fun h => h)).kp hk4 (fun h => h)
    have K4 := (K2.drew.trans hk3).trans hk4
    clear hk3 hk4 hI2 hR2
    go_wp2_with (first | ((with_reducible refine gate_dst (N := 58) rfl ?_); refine wpList_load_row rfl 57 _ rfl g rfl _ ((s.set 2 (mixW (s.r 2) x (s.r 5 &&& 2))).cells) (0, 0) _ ((hI4.set 2 _).blk) Try.underlying57 rfl infoR ?_) | ((with_reducible refine gate_store (t := 57) (p := 6) rfl ?_); refine st_ev rfl rfl rfl h ((s.set 2 (mixW (s.r 2) x (s.r 5 &&& 2))).cells) _ _ rfl rfl ((hR4.far hgh _).blk) infoR rfl (VS.one _) ?_; intro wz hs_wz ks_wz))
    refine bodyPost_ret (results_cell_row rfl _ _ h 57 ((s.set 2 (mixW (s.r 2) x (s.r 5 &&& 2))).cells) (0, 0) _ rfl (hs_wz) Try.underlying57 rfl infoR) rfl ?_
    exact ⟨rfl, (K4.setCell (p := ⟨g, 2, none⟩) (.inr hgw) _).then ks_wz fun i hi (e : i = h) => by omega⟩
end Go.Proofs.Ytlhdildnekllhaa.H
