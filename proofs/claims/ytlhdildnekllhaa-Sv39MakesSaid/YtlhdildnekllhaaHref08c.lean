/- The document's answer for the registers (vireoref08), walked by hand: its writes. -/
import Derived.Test.YtlhdildnekllhaaHref08b
namespace Go.Proofs.Ytlhdildnekllhaa.H
open Go.RowKit Go.Proofs.YtlhdildnekllhaaW.PrintWords Go.Proofs.YtlhdildnekllhaaW.PrintLast Go.Proofs.Ytlhdildnekllhaa.PAl Go.Proofs.Ytlhdildnekllhaa.Pure Go.Proofs.Ytlhdildnekllhaa.Vw
set_option linter.unusedVariables false
set_option linter.unusedSimpArgs false
theorem zeroR (W : World) : (zeroValue RT).run Try.prog W = .ok (.agg (VS.mk 0 fun _ => 0).cells) W := by kernel_rfl
theorem infoR : (Try.prog.info? RT).map (·.size) = some 23 := by kernel_rfl
theorem out2 {a b c : World} {g : Nat} (h : KpN a b) (hg : a.heap.size ≤ g) (k : Kp b c (fun i => i = g)) : KpN a c := h.then k fun i hi (e : i = g) => by omega
def rwriteW (s : VS) (n : Int) (x : Nat) : VS :=
  if n = 768 then s.set 1 (mixW (s.r 1) x (if getW x 11 2 = 2 then 8257962 else 8264106)) else if n = 256 then s.set 1 (mixW (s.r 1) x 786722)
  else if n = 836 then s.set 2 (x &&& 546) else if n = 324 then s.set 2 (mixW (s.r 2) x (s.r 5 &&& 2)) else if n = 260 then s.set 6 (mixW (s.r 6) x (s.r 5))
  else if (ofR n).2.2.2.2 = false ∨ (ofR n).2.2.1 < 0 ∨ (ofR n).2.2.2.1 = 0 then s
  else if ((ofR n).2.2.1 = 6 ∨ (ofR n).2.2.1 = 12) ∧ getW x 1 1 = 1 then s
  else if (ofR n).2.2.1 = 18 ∧ getW x 60 4 ≠ 0 ∧ getW x 60 4 ≠ 8 then s
  else s.set ((ofR n).2.2.1.toNat + 1) (x &&& (ofR n).2.2.2.1.toNat)
set_option maxHeartbeats 8000000 in
set_option maxRecDepth 100000 in
theorem rwrite_c3 (s : VS) (x : Nat) (w : World) (hs : s.ok) (hx : U x) :
    Calls Try.prog 43 #[.agg s.cells, .int .i64 836, .int .u64 (x : Int)] w fun e w' => e = .returned (.agg (s.set 2 (x &&& 546)).cells) ∧ KpN w w' := by
  go_enter Try.func43, Try.ntmps43
  go_wp2_with (first | ((with_reducible refine gate_dst (N := 3) rfl ?_); refine bx_ev rfl rfl (N := 3) rfl (s.cells) rfl ?_; intro g hg_g w1 hb_g hk_g; have Hg_g := Aside0.mk hg_g; clear hg_g) | (((with_reducible refine gate_dst (N := 6) rfl ?_); refine al_ev rfl rfl (N := 6) rfl _ (zeroR _) ?_; intro h hg_h w2 hb_h hk_h; have Hg_h := Aside0.mk hg_h; clear hg_h); have hI2 : St RT w2 g s := (St.mk hb_g).kp hk_h (fun h => h); have c1 := hI2.c 1; have c2 := hI2.c 2; have c5 := hI2.c 5; have c6 := hI2.c 6))
  have hgh : h ≠ g := by have := Hg_h.out; have := blk_lt hb_g; omega
  have hgw : w.heap.size ≤ g := by have := Hg_g.out; omega
  have hhw : w.heap.size ≤ h := by have := Hg_h.out; have := hk_g.size; omega
  have hR2 : St RT w2 h (VS.mk 0 fun _ => 0) := St.mk hb_h
  have K2 := hk_g.trans hk_h
  clear hb_g hb_h hk_g hk_h Hg_g Hg_h
  refine (and_rl x 546 _ hx (by decide)).mono ?_
  rintro e w3 ⟨rfl, hk3⟩
  have hI3 : St RT w3 g s := hI2.kp hk3 (fun h => h)
  have hR3 : St RT w3 h (VS.mk 0 fun _ => 0) := hR2.kp hk3 (fun h => h)
  have K3 := K2.trans hk3
  clear hI2 hR2 K2 hk3
  have cJ := hI3.c 2
  have fJ := hI3.f 2
  go_wp2_with (first | ((with_reducible refine gate_dst (N := 44) rfl ?_); refine wpList_load_row rfl 57 _ rfl g rfl _ ((s.set 2 (x &&& 546)).cells) (0, 0) _ ((hI3.set 2 _).blk) Try.underlying57 rfl infoR ?_) | ((with_reducible refine gate_store (t := 57) (p := 6) rfl ?_); refine st_ev rfl rfl rfl h ((s.set 2 (x &&& 546)).cells) _ _ rfl rfl ((hR3.far hgh _).blk) infoR rfl (VS.one _) ?_; intro wz hs_wz ks_wz))
  refine bodyPost_ret (results_cell_row rfl _ _ h 57 ((s.set 2 (x &&& 546)).cells) (0, 0) _ rfl (hs_wz) Try.underlying57 rfl infoR) rfl ?_
  exact ⟨rfl, (K3.setCell (p := ⟨g, 2, none⟩) (.inr hgw) _).then ks_wz fun i hi (e : i = h) => by omega⟩
set_option maxHeartbeats 8000000 in
set_option maxRecDepth 100000 in
theorem rwrite_c2 (s : VS) (x : Nat) (w : World) (hs : s.ok) (hx : U x) :
    Calls Try.prog 43 #[.agg s.cells, .int .i64 256, .int .u64 (x : Int)] w fun e w' => e = .returned (.agg (s.set 1 (mixW (s.r 1) x 786722)).cells) ∧ KpN w w' := by
  go_enter Try.func43, Try.ntmps43
  go_wp2_with (first | ((with_reducible refine gate_dst (N := 3) rfl ?_); refine bx_ev rfl rfl (N := 3) rfl (s.cells) rfl ?_; intro g hg_g w1 hb_g hk_g; have Hg_g := Aside0.mk hg_g; clear hg_g) | (((with_reducible refine gate_dst (N := 6) rfl ?_); refine al_ev rfl rfl (N := 6) rfl _ (zeroR _) ?_; intro h hg_h w2 hb_h hk_h; have Hg_h := Aside0.mk hg_h; clear hg_h); have hI2 : St RT w2 g s := (St.mk hb_g).kp hk_h (fun h => h); have c1 := hI2.c 1; have c2 := hI2.c 2; have c5 := hI2.c 5; have c6 := hI2.c 6))
  have hgh : h ≠ g := by have := Hg_h.out; have := blk_lt hb_g; omega
  have hgw : w.heap.size ≤ g := by have := Hg_g.out; omega
  have hhw : w.heap.size ≤ h := by have := Hg_h.out; have := hk_g.size; omega
  have hR2 : St RT w2 h (VS.mk 0 fun _ => 0) := St.mk hb_h
  have K2 := hk_g.trans hk_h
  clear hb_g hb_h hk_g hk_h Hg_g Hg_h
  refine (mix_rl (s.r 1) x 786722 _ (hs 1) hx (by decide)).mono ?_
  rintro e w3 ⟨rfl, hk3⟩
  have hI3 : St RT w3 g s := hI2.kp hk3 (fun h => h)
  have hR3 : St RT w3 h (VS.mk 0 fun _ => 0) := hR2.kp hk3 (fun h => h)
  have K3 := K2.trans hk3
  clear hI2 hR2 K2 hk3
  have cJ := hI3.c 1
  have fJ := hI3.f 1
  go_wp2_with (first | ((with_reducible refine gate_dst (N := 37) rfl ?_); refine wpList_load_row rfl 57 _ rfl g rfl _ ((s.set 1 (mixW (s.r 1) x 786722)).cells) (0, 0) _ ((hI3.set 1 _).blk) Try.underlying57 rfl infoR ?_) | ((with_reducible refine gate_store (t := 57) (p := 6) rfl ?_); refine st_ev rfl rfl rfl h ((s.set 1 (mixW (s.r 1) x 786722)).cells) _ _ rfl rfl ((hR3.far hgh _).blk) infoR rfl (VS.one _) ?_; intro wz hs_wz ks_wz))
  refine bodyPost_ret (results_cell_row rfl _ _ h 57 ((s.set 1 (mixW (s.r 1) x 786722)).cells) (0, 0) _ rfl (hs_wz) Try.underlying57 rfl infoR) rfl ?_
  exact ⟨rfl, (K3.setCell (p := ⟨g, 1, none⟩) (.inr hgw) _).then ks_wz fun i hi (e : i = h) => by omega⟩
set_option maxHeartbeats 8000000 in
set_option maxRecDepth 100000 in
theorem rwrite_c5 (s : VS) (x : Nat) (w : World) (hs : s.ok) (hx : U x) :
    Calls Try.prog 43 #[.agg s.cells, .int .i64 260, .int .u64 (x : Int)] w fun e w' => e = .returned (.agg (s.set 6 (mixW (s.r 6) x (s.r 5))).cells) ∧ KpN w w' := by
  go_enter Try.func43, Try.ntmps43
  go_wp2_with (first | ((with_reducible refine gate_dst (N := 3) rfl ?_); refine bx_ev rfl rfl (N := 3) rfl (s.cells) rfl ?_; intro g hg_g w1 hb_g hk_g; have Hg_g := Aside0.mk hg_g; clear hg_g) | (((with_reducible refine gate_dst (N := 6) rfl ?_); refine al_ev rfl rfl (N := 6) rfl _ (zeroR _) ?_; intro h hg_h w2 hb_h hk_h; have Hg_h := Aside0.mk hg_h; clear hg_h); have hI2 : St RT w2 g s := (St.mk hb_g).kp hk_h (fun h => h); have c1 := hI2.c 1; have c2 := hI2.c 2; have c5 := hI2.c 5; have c6 := hI2.c 6))
  have hgh : h ≠ g := by have := Hg_h.out; have := blk_lt hb_g; omega
  have hgw : w.heap.size ≤ g := by have := Hg_g.out; omega
  have hhw : w.heap.size ≤ h := by have := Hg_h.out; have := hk_g.size; omega
  have hR2 : St RT w2 h (VS.mk 0 fun _ => 0) := St.mk hb_h
  have K2 := hk_g.trans hk_h
  clear hb_g hb_h hk_g hk_h Hg_g Hg_h
  refine (mix_r (s.r 6) x (s.r 5) _ (hs 6) hx (hs 5)).mono ?_
  rintro e w3 ⟨rfl, hk3⟩
  have hI3 : St RT w3 g s := hI2.kp hk3 (fun h => h)
  have hR3 : St RT w3 h (VS.mk 0 fun _ => 0) := hR2.kp hk3 (fun h => h)
  have K3 := K2.trans hk3
  clear hI2 hR2 K2 hk3
  have cJ := hI3.c 6
  have fJ := hI3.f 6
  go_wp2_with (first | ((with_reducible refine gate_dst (N := 71) rfl ?_); refine wpList_load_row rfl 57 _ rfl g rfl _ ((s.set 6 (mixW (s.r 6) x (s.r 5))).cells) (0, 0) _ ((hI3.set 6 _).blk) Try.underlying57 rfl infoR ?_) | ((with_reducible refine gate_store (t := 57) (p := 6) rfl ?_); refine st_ev rfl rfl rfl h ((s.set 6 (mixW (s.r 6) x (s.r 5))).cells) _ _ rfl rfl ((hR3.far hgh _).blk) infoR rfl (VS.one _) ?_; intro wz hs_wz ks_wz))
  refine bodyPost_ret (results_cell_row rfl _ _ h 57 ((s.set 6 (mixW (s.r 6) x (s.r 5))).cells) (0, 0) _ rfl (hs_wz) Try.underlying57 rfl infoR) rfl ?_
  exact ⟨rfl, (K3.setCell (p := ⟨g, 6, none⟩) (.inr hgw) _).then ks_wz fun i hi (e : i = h) => by omega⟩
set_option maxHeartbeats 8000000 in
set_option maxRecDepth 100000 in
theorem rwrite_c1a (s : VS) (x : Nat) (w : World) (hs : s.ok) (hx : U x) (hg : getW x 11 2 = 2) :
    Calls Try.prog 43 #[.agg s.cells, .int .i64 768, .int .u64 (x : Int)] w fun e w' => e = .returned (.agg (s.set 1 (mixW (s.r 1) x 8257962)).cells) ∧ KpN w w' := by
  go_enter Try.func43, Try.ntmps43
  go_wp2_with (first | ((with_reducible refine gate_dst (N := 3) rfl ?_); refine bx_ev rfl rfl (N := 3) rfl (s.cells) rfl ?_; intro g hg_g w1 hb_g hk_g; have Hg_g := Aside0.mk hg_g; clear hg_g) | (((with_reducible refine gate_dst (N := 6) rfl ?_); refine al_ev rfl rfl (N := 6) rfl _ (zeroR _) ?_; intro h hg_h w2 hb_h hk_h; have Hg_h := Aside0.mk hg_h; clear hg_h); have hI2 : St RT w2 g s := (St.mk hb_g).kp hk_h (fun h => h); have c1 := hI2.c 1; have c2 := hI2.c 2; have c5 := hI2.c 5; have c6 := hI2.c 6))
  have hgh : h ≠ g := by have := Hg_h.out; have := blk_lt hb_g; omega
  have hgw : w.heap.size ≤ g := by have := Hg_g.out; omega
  have hhw : w.heap.size ≤ h := by have := Hg_h.out; have := hk_g.size; omega
  have hR2 : St RT w2 h (VS.mk 0 fun _ => 0) := St.mk hb_h
  have K2 := hk_g.trans hk_h
  clear hb_g hb_h hk_g hk_h Hg_g Hg_h
  refine (getr_c x 11 2 _ hx).mono ?_
  rintro e w3 ⟨rfl, hk3⟩
  have hI3 : St RT w3 g s := hI2.kp hk3 (fun h => h)
  have hR3 : St RT w3 h (VS.mk 0 fun _ => 0) := hR2.kp hk3 (fun h => h)
  have K3 := K2.trans hk3
  clear hI2 hR2 K2 hk3
  have Hg := Aside0.mk hg
  have hb : (((getW x 11 2 : Nat) : Int) == 2) = true := by rw [hg]; rfl
  clear hg
  have c1 := hI3.c 1
  go_wp2_with (fail)
  refine (mix_rl (s.r 1) x 8257962 _ (hs 1) hx (by decide)).mono ?_
  rintro e w4 ⟨rfl, hk4⟩
  have hI4 : St RT w4 g s := hI3.kp hk4 (fun h => h)
  have hR4 : St RT w4 h (VS.mk 0 fun _ => 0) := hR3.kp hk4 (fun h => h)
  have K4 := K3.trans hk4
  clear hI3 hR3 K3 hk4
  have cJ := hI4.c 1
  have fJ := hI4.f 1
  go_wp2_with (first | ((with_reducible refine gate_dst (N := 27) rfl ?_); refine wpList_load_row rfl 57 _ rfl g rfl _ ((s.set 1 (mixW (s.r 1) x 8257962)).cells) (0, 0) _ ((hI4.set 1 _).blk) Try.underlying57 rfl infoR ?_) | ((with_reducible refine gate_store (t := 57) (p := 6) rfl ?_); refine st_ev rfl rfl rfl h ((s.set 1 (mixW (s.r 1) x 8257962)).cells) _ _ rfl rfl ((hR4.far hgh _).blk) infoR rfl (VS.one _) ?_; intro wz hs_wz ks_wz))
  refine bodyPost_ret (results_cell_row rfl _ _ h 57 ((s.set 1 (mixW (s.r 1) x 8257962)).cells) (0, 0) _ rfl (hs_wz) Try.underlying57 rfl infoR) rfl ?_
  exact ⟨rfl, (K4.setCell (p := ⟨g, 1, none⟩) (.inr hgw) _).then ks_wz fun i hi (e : i = h) => by omega⟩
set_option maxHeartbeats 8000000 in
set_option maxRecDepth 100000 in
theorem rwrite_c1b (s : VS) (x : Nat) (w : World) (hs : s.ok) (hx : U x) (hg : ¬ getW x 11 2 = 2) :
    Calls Try.prog 43 #[.agg s.cells, .int .i64 768, .int .u64 (x : Int)] w fun e w' => e = .returned (.agg (s.set 1 (mixW (s.r 1) x 8264106)).cells) ∧ KpN w w' := by
  go_enter Try.func43, Try.ntmps43
  go_wp2_with (first | ((with_reducible refine gate_dst (N := 3) rfl ?_); refine bx_ev rfl rfl (N := 3) rfl (s.cells) rfl ?_; intro g hg_g w1 hb_g hk_g; have Hg_g := Aside0.mk hg_g; clear hg_g) | (((with_reducible refine gate_dst (N := 6) rfl ?_); refine al_ev rfl rfl (N := 6) rfl _ (zeroR _) ?_; intro h hg_h w2 hb_h hk_h; have Hg_h := Aside0.mk hg_h; clear hg_h); have hI2 : St RT w2 g s := (St.mk hb_g).kp hk_h (fun h => h); have c1 := hI2.c 1; have c2 := hI2.c 2; have c5 := hI2.c 5; have c6 := hI2.c 6))
  have hgh : h ≠ g := by have := Hg_h.out; have := blk_lt hb_g; omega
  have hgw : w.heap.size ≤ g := by have := Hg_g.out; omega
  have hhw : w.heap.size ≤ h := by have := Hg_h.out; have := hk_g.size; omega
  have hR2 : St RT w2 h (VS.mk 0 fun _ => 0) := St.mk hb_h
  have K2 := hk_g.trans hk_h
  clear hb_g hb_h hk_g hk_h Hg_g Hg_h
  refine (getr_c x 11 2 _ hx).mono ?_
  rintro e w3 ⟨rfl, hk3⟩
  have hI3 : St RT w3 g s := hI2.kp hk3 (fun h => h)
  have hR3 : St RT w3 h (VS.mk 0 fun _ => 0) := hR2.kp hk3 (fun h => h)
  have K3 := K2.trans hk3
  clear hI2 hR2 K2 hk3
  have Hg := Aside0.mk hg
  have hb : (((getW x 11 2 : Nat) : Int) == 2) = false := by rw [beq_eq_false_iff_ne]; omega
  clear hg
  have c1 := hI3.c 1
  go_wp2_with (fail)
  refine (mix_rl (s.r 1) x 8264106 _ (hs 1) hx (by decide)).mono ?_
  rintro e w4 ⟨rfl, hk4⟩
  have hI4 : St RT w4 g s := hI3.kp hk4 (fun h => h)
  have hR4 : St RT w4 h (VS.mk 0 fun _ => 0) := hR3.kp hk4 (fun h => h)
  have K4 := K3.trans hk4
  clear hI3 hR3 K3 hk4
  have cJ := hI4.c 1
  have fJ := hI4.f 1
  go_wp2_with (first | ((with_reducible refine gate_dst (N := 27) rfl ?_); refine wpList_load_row rfl 57 _ rfl g rfl _ ((s.set 1 (mixW (s.r 1) x 8264106)).cells) (0, 0) _ ((hI4.set 1 _).blk) Try.underlying57 rfl infoR ?_) | ((with_reducible refine gate_store (t := 57) (p := 6) rfl ?_); refine st_ev rfl rfl rfl h ((s.set 1 (mixW (s.r 1) x 8264106)).cells) _ _ rfl rfl ((hR4.far hgh _).blk) infoR rfl (VS.one _) ?_; intro wz hs_wz ks_wz))
  refine bodyPost_ret (results_cell_row rfl _ _ h 57 ((s.set 1 (mixW (s.r 1) x 8264106)).cells) (0, 0) _ rfl (hs_wz) Try.underlying57 rfl infoR) rfl ?_
  exact ⟨rfl, (K4.setCell (p := ⟨g, 1, none⟩) (.inr hgw) _).then ks_wz fun i hi (e : i = h) => by omega⟩
end Go.Proofs.Ytlhdildnekllhaa.H
