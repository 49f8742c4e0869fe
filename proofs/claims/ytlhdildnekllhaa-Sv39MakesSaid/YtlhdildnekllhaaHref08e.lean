/- The document's answer for the registers (vireoref08), walked by hand: its writes, by the rows. -/
import Derived.Test.YtlhdildnekllhaaHref08d
namespace Go.Proofs.Ytlhdildnekllhaa.H
open Go.RowKit Go.Proofs.YtlhdildnekllhaaW.PrintWords Go.Proofs.YtlhdildnekllhaaW.PrintLast Go.Proofs.Ytlhdildnekllhaa.PAl Go.Proofs.Ytlhdildnekllhaa.Pure Go.Proofs.Ytlhdildnekllhaa.Vw
set_option linter.unusedVariables false
set_option linter.unusedSimpArgs false
/-- Block g holds these cells. -/
structure Bk (w : World) (g : Nat) (cs : Array Value) (T : TypeId) : Prop where
  blk : w.heap[g]? = some (.cells cs T (0, 0))
theorem Bk.kp {w w' : World} {g cs T} {S : Nat → Prop} (h : Bk w g cs T) (k : Kp w w' S) (hS : ¬ S g) : Bk w' g cs T := ⟨(k.block g (blk_lt h.blk) hS).trans h.blk⟩
theorem Bk.c {w : World} {g cs T} (h : Bk w g cs T) (j : Nat) : w.cell? ⟨g, j, none⟩ = cs[j]? := blk_cell h.blk j
theorem Bk.drew {w : World} {g cs T} (h : Bk w g cs T) : Bk w.drew g cs T := ⟨h.blk⟩
abbrev rowC (n0 : Int) (nm : ByteArray) (a m : Int) : Array Value := #[.int .i64 n0, .string nm, .int .i64 a, .int .u64 m]
theorem zeroRow (W : World) : (zeroValue 119).run Try.prog W = .ok (.agg (rowC 0 ⟨#[]⟩ 0 0)) W := by kernel_rfl
theorem infoRow : (Try.prog.info? 119).map (·.size) = some 4 := by kernel_rfl
theorem rowC_one (n0 : Int) (nm : ByteArray) (a m : Int) : (rowC n0 nm a m).all (·.oneCell') = true := by simp [Value.oneCell']
structure NotFive (n : Int) : Prop where
  b1 : (n == 768) = false
  b2 : (n == 256) = false
  b3 : (n == 836) = false
  b4 : (n == 324) = false
  b5 : (n == 260) = false
set_option maxHeartbeats 8000000 in
set_option maxRecDepth 100000 in
theorem rwrite_A (s : VS) (n : Int) (x : Nat) (n0 : Int) (nm : ByteArray) (a m : Int) (w : World) (hs : s.ok) (hx : U x) (hn : NotFive n) (hof : ofR n = (n0, nm, (a : Int), m, false)) :
    Calls Try.prog 43 #[.agg s.cells, .int .i64 n, .int .u64 (x : Int)] w fun e w' => e = .returned (.agg (s).cells) ∧ KpN w w' := by
  have b1 := hn.b1
  have b2 := hn.b2
  have b3 := hn.b3
  have b4 := hn.b4
  have b5 := hn.b5
  have ofc : ∀ w, Calls Try.prog 71 #[.int .i64 n] w fun e w' => e = .returned (.tuple #[.agg (rowC n0 nm (a : Int) m), .bool false]) ∧ KpN w w' := fun w => by
    have := of_c n w; rw [hof] at this; exact this
  have Ofc := Aside0.mk ofc
  clear ofc hof hn
  go_enter Try.func43, Try.ntmps43
  go_wp2_with (first | ((with_reducible refine gate_dst (N := 3) rfl ?_); refine bx_ev rfl rfl (N := 3) rfl (s.cells) rfl ?_; intro g hg_g w1 hb_g hk_g; have Hg_g := Aside0.mk hg_g; clear hg_g) | ((with_reducible refine gate_dst (N := 6) rfl ?_); refine al_ev rfl rfl (N := 6) rfl _ (zeroR _) ?_; intro h hg_h w2 hb_h hk_h; have Hg_h := Aside0.mk hg_h; clear hg_h))
  have hgh : h ≠ g := by have := Hg_h.out; have := blk_lt hb_g; omega
  have hgw : w.heap.size ≤ g := by have := Hg_g.out; omega
  have hhw : w.heap.size ≤ h := by have := Hg_h.out; have := hk_g.size; omega
  have hI2 : St RT w2 g s := (St.mk hb_g).kp hk_h (fun h => h)
  have hR2 : St RT w2 h (VS.mk 0 fun _ => 0) := St.mk hb_h
  have K2 := hk_g.trans hk_h
  clear hb_g hb_h hk_g hk_h Hg_g Hg_h
  refine (Ofc.out _).mono ?_
  rintro e w3 ⟨rfl, hk3⟩
  go_wp2_with (first
    | (((with_reducible refine gate_dst (N := 8) rfl ?_); refine al_ev rfl rfl (N := 8) rfl _ (zeroRow _) ?_; intro r hg_r w4 hb_r hk_r; have Hg_r := Aside0.mk hg_r; clear hg_r); have hI4 : St RT w4 g s := (hI2.kp hk3 (fun h => h)).kp hk_r (fun h => h); have hR4 : St RT w4 h (VS.mk 0 fun _ => 0) := (hR2.kp hk3 (fun h => h)).kp hk_r (fun h => h); have hgr : g ≠ r := (by have := Hg_r.out; have := (hI2.kp hk3 (fun h => h)).lt; omega); have hhr : h ≠ r := (by have := Hg_r.out; have := (hR2.kp hk3 (fun h => h)).lt; omega); have hwr : w.heap.size ≤ r := (by have := Hg_r.out; have := (K2.trans hk3).size; omega); have K4 := (K2.trans hk3).trans hk_r)
    | ((with_reducible refine gate_store (t := 119) (p := 8) rfl ?_); refine st_ev rfl rfl rfl r (rowC n0 nm (a : Int) m) _ _ rfl rfl hb_r infoRow rfl (rowC_one _ _ _ _) ?_; intro w5 hs5 ks5; have hB5 : Bk w5 r (rowC n0 nm (a : Int) m) 119 := ⟨hs5⟩; have r2 : w5.cell? ⟨r, 2, none⟩ = some (.int .i64 (a : Int)) := hB5.c 2; have r3 : w5.cell? ⟨r, 3, none⟩ = some (.int .u64 m) := hB5.c 3; have hI5 := hI4.kp ks5 hgr; have hR5 := hR4.kp ks5 hhr; have K5 : KpN w w5 := K4.then ks5 (fun i hi (e : i = r) => by omega)) | ((with_reducible refine gate_dst (N := 89) rfl ?_); refine wpList_load_row rfl 57 _ rfl g rfl _ (s.cells) (0, 0) _ (hI5.blk) Try.underlying57 rfl infoR ?_) | ((with_reducible refine gate_store (t := 57) (p := 6) rfl ?_); refine st_ev rfl rfl rfl h (s.cells) _ _ rfl rfl (hR5.blk) infoR rfl (VS.one _) ?_; intro wz hs_wz ks_wz))
  refine bodyPost_ret (results_cell_row rfl _ _ h 57 (s.cells) (0, 0) _ rfl (hs_wz) Try.underlying57 rfl infoR) rfl ?_
  exact ⟨rfl, K5.then ks_wz fun i hi (e : i = h) => by omega⟩
set_option maxHeartbeats 8000000 in
set_option maxRecDepth 100000 in
theorem rwrite_B (s : VS) (n : Int) (x : Nat) (n0 : Int) (nm : ByteArray) (a m : Int) (ha : a < 0) (w : World) (hs : s.ok) (hx : U x) (hn : NotFive n) (hof : ofR n = (n0, nm, (a : Int), m, true)) :
    Calls Try.prog 43 #[.agg s.cells, .int .i64 n, .int .u64 (x : Int)] w fun e w' => e = .returned (.agg (s).cells) ∧ KpN w w' := by
  have b1 := hn.b1
  have b2 := hn.b2
  have b3 := hn.b3
  have b4 := hn.b4
  have b5 := hn.b5
  have ofc : ∀ w, Calls Try.prog 71 #[.int .i64 n] w fun e w' => e = .returned (.tuple #[.agg (rowC n0 nm (a : Int) m), .bool true]) ∧ KpN w w' := fun w => by
    have := of_c n w; rw [hof] at this; exact this
  have Ofc := Aside0.mk ofc
  clear ofc hof hn
  have hb : decide (a < 0) = true := decide_eq_true ha
  go_enter Try.func43, Try.ntmps43
  go_wp2_with (first | ((with_reducible refine gate_dst (N := 3) rfl ?_); refine bx_ev rfl rfl (N := 3) rfl (s.cells) rfl ?_; intro g hg_g w1 hb_g hk_g; have Hg_g := Aside0.mk hg_g; clear hg_g) | ((with_reducible refine gate_dst (N := 6) rfl ?_); refine al_ev rfl rfl (N := 6) rfl _ (zeroR _) ?_; intro h hg_h w2 hb_h hk_h; have Hg_h := Aside0.mk hg_h; clear hg_h))
  have hgh : h ≠ g := by have := Hg_h.out; have := blk_lt hb_g; omega
  have hgw : w.heap.size ≤ g := by have := Hg_g.out; omega
  have hhw : w.heap.size ≤ h := by have := Hg_h.out; have := hk_g.size; omega
  have hI2 : St RT w2 g s := (St.mk hb_g).kp hk_h (fun h => h)
  have hR2 : St RT w2 h (VS.mk 0 fun _ => 0) := St.mk hb_h
  have K2 := hk_g.trans hk_h
  clear hb_g hb_h hk_g hk_h Hg_g Hg_h
  refine (Ofc.out _).mono ?_
  rintro e w3 ⟨rfl, hk3⟩
  go_wp2_with (first
    | (((with_reducible refine gate_dst (N := 8) rfl ?_); refine al_ev rfl rfl (N := 8) rfl _ (zeroRow _) ?_; intro r hg_r w4 hb_r hk_r; have Hg_r := Aside0.mk hg_r; clear hg_r); have hI4 : St RT w4 g s := (hI2.kp hk3 (fun h => h)).kp hk_r (fun h => h); have hR4 : St RT w4 h (VS.mk 0 fun _ => 0) := (hR2.kp hk3 (fun h => h)).kp hk_r (fun h => h); have hgr : g ≠ r := (by have := Hg_r.out; have := (hI2.kp hk3 (fun h => h)).lt; omega); have hhr : h ≠ r := (by have := Hg_r.out; have := (hR2.kp hk3 (fun h => h)).lt; omega); have hwr : w.heap.size ≤ r := (by have := Hg_r.out; have := (K2.trans hk3).size; omega); have K4 := (K2.trans hk3).trans hk_r)
    | ((with_reducible refine gate_store (t := 119) (p := 8) rfl ?_); refine st_ev rfl rfl rfl r (rowC n0 nm (a : Int) m) _ _ rfl rfl hb_r infoRow rfl (rowC_one _ _ _ _) ?_; intro w5 hs5 ks5; have hB5 : Bk w5 r (rowC n0 nm (a : Int) m) 119 := ⟨hs5⟩; have r2 : w5.cell? ⟨r, 2, none⟩ = some (.int .i64 (a : Int)) := hB5.c 2; have r3 : w5.cell? ⟨r, 3, none⟩ = some (.int .u64 m) := hB5.c 3; have hI5 := hI4.kp ks5 hgr; have hR5 := hR4.kp ks5 hhr; have K5 : KpN w w5 := K4.then ks5 (fun i hi (e : i = r) => by omega)) | ((with_reducible refine gate_dst (N := 89) rfl ?_); refine wpList_load_row rfl 57 _ rfl g rfl _ (s.cells) (0, 0) _ (hI5.blk) Try.underlying57 rfl infoR ?_) | ((with_reducible refine gate_store (t := 57) (p := 6) rfl ?_); refine st_ev rfl rfl rfl h (s.cells) _ _ rfl rfl (hR5.blk) infoR rfl (VS.one _) ?_; intro wz hs_wz ks_wz))
  refine bodyPost_ret (results_cell_row rfl _ _ h 57 (s.cells) (0, 0) _ rfl (hs_wz) Try.underlying57 rfl infoR) rfl ?_
  exact ⟨rfl, K5.then ks_wz fun i hi (e : i = h) => by omega⟩
set_option maxHeartbeats 8000000 in
set_option maxRecDepth 100000 in
theorem rwrite_C (s : VS) (n : Int) (x : Nat) (n0 : Int) (nm : ByteArray) (a : Int) (ha : ¬ a < 0) (w : World) (hs : s.ok) (hx : U x) (hn : NotFive n) (hof : ofR n = (n0, nm, (a : Int), 0, true)) :
    Calls Try.prog 43 #[.agg s.cells, .int .i64 n, .int .u64 (x : Int)] w fun e w' => e = .returned (.agg (s).cells) ∧ KpN w w' := by
  have b1 := hn.b1
  have b2 := hn.b2
  have b3 := hn.b3
  have b4 := hn.b4
  have b5 := hn.b5
  have ofc : ∀ w, Calls Try.prog 71 #[.int .i64 n] w fun e w' => e = .returned (.tuple #[.agg (rowC n0 nm (a : Int) 0), .bool true]) ∧ KpN w w' := fun w => by
    have := of_c n w; rw [hof] at this; exact this
  have Ofc := Aside0.mk ofc
  clear ofc hof hn
  have hb : decide (a < 0) = false := decide_eq_false ha
  go_enter Try.func43, Try.ntmps43
  go_wp2_with (first | ((with_reducible refine gate_dst (N := 3) rfl ?_); refine bx_ev rfl rfl (N := 3) rfl (s.cells) rfl ?_; intro g hg_g w1 hb_g hk_g; have Hg_g := Aside0.mk hg_g; clear hg_g) | ((with_reducible refine gate_dst (N := 6) rfl ?_); refine al_ev rfl rfl (N := 6) rfl _ (zeroR _) ?_; intro h hg_h w2 hb_h hk_h; have Hg_h := Aside0.mk hg_h; clear hg_h))
  have hgh : h ≠ g := by have := Hg_h.out; have := blk_lt hb_g; omega
  have hgw : w.heap.size ≤ g := by have := Hg_g.out; omega
  have hhw : w.heap.size ≤ h := by have := Hg_h.out; have := hk_g.size; omega
  have hI2 : St RT w2 g s := (St.mk hb_g).kp hk_h (fun h => h)
  have hR2 : St RT w2 h (VS.mk 0 fun _ => 0) := St.mk hb_h
  have K2 := hk_g.trans hk_h
  clear hb_g hb_h hk_g hk_h Hg_g Hg_h
  refine (Ofc.out _).mono ?_
  rintro e w3 ⟨rfl, hk3⟩
  go_wp2_with (first
    | (((with_reducible refine gate_dst (N := 8) rfl ?_); refine al_ev rfl rfl (N := 8) rfl _ (zeroRow _) ?_; intro r hg_r w4 hb_r hk_r; have Hg_r := Aside0.mk hg_r; clear hg_r); have hI4 : St RT w4 g s := (hI2.kp hk3 (fun h => h)).kp hk_r (fun h => h); have hR4 : St RT w4 h (VS.mk 0 fun _ => 0) := (hR2.kp hk3 (fun h => h)).kp hk_r (fun h => h); have hgr : g ≠ r := (by have := Hg_r.out; have := (hI2.kp hk3 (fun h => h)).lt; omega); have hhr : h ≠ r := (by have := Hg_r.out; have := (hR2.kp hk3 (fun h => h)).lt; omega); have hwr : w.heap.size ≤ r := (by have := Hg_r.out; have := (K2.trans hk3).size; omega); have K4 := (K2.trans hk3).trans hk_r)
    | ((with_reducible refine gate_store (t := 119) (p := 8) rfl ?_); refine st_ev rfl rfl rfl r (rowC n0 nm (a : Int) 0) _ _ rfl rfl hb_r infoRow rfl (rowC_one _ _ _ _) ?_; intro w5 hs5 ks5; have hB5 : Bk w5 r (rowC n0 nm (a : Int) 0) 119 := ⟨hs5⟩; have r2 : w5.cell? ⟨r, 2, none⟩ = some (.int .i64 (a : Int)) := hB5.c 2; have r3 : w5.cell? ⟨r, 3, none⟩ = some (.int .u64 0) := hB5.c 3; have hI5 := hI4.kp ks5 hgr; have hR5 := hR4.kp ks5 hhr; have K5 : KpN w w5 := K4.then ks5 (fun i hi (e : i = r) => by omega)) | ((with_reducible refine gate_dst (N := 89) rfl ?_); refine wpList_load_row rfl 57 _ rfl g rfl _ (s.cells) (0, 0) _ (hI5.blk) Try.underlying57 rfl infoR ?_) | ((with_reducible refine gate_store (t := 57) (p := 6) rfl ?_); refine st_ev rfl rfl rfl h (s.cells) _ _ rfl rfl (hR5.blk) infoR rfl (VS.one _) ?_; intro wz hs_wz ks_wz))
  refine bodyPost_ret (results_cell_row rfl _ _ h 57 (s.cells) (0, 0) _ rfl (hs_wz) Try.underlying57 rfl infoR) rfl ?_
  exact ⟨rfl, K5.then ks_wz fun i hi (e : i = h) => by omega⟩
set_option maxHeartbeats 8000000 in
set_option maxRecDepth 100000 in
theorem rwrite_D6 (s : VS) (n : Int) (x : Nat) (n0 : Int) (nm : ByteArray) (m : Nat) (hmz : m ≠ 0) (hmU : U m) (hg : getW x 1 1 = 1) (w : World) (hs : s.ok) (hx : U x) (hn : NotFive n) (hof : ofR n = (n0, nm, 6, (m : Int), true)) :
    Calls Try.prog 43 #[.agg s.cells, .int .i64 n, .int .u64 (x : Int)] w fun e w' => e = .returned (.agg (s).cells) ∧ KpN w w' := by
  have b1 := hn.b1
  have b2 := hn.b2
  have b3 := hn.b3
  have b4 := hn.b4
  have b5 := hn.b5
  have ofc : ∀ w, Calls Try.prog 71 #[.int .i64 n] w fun e w' => e = .returned (.tuple #[.agg (rowC n0 nm 6 (m : Int)), .bool true]) ∧ KpN w w' := fun w => by
    have := of_c n w; rw [hof] at this; exact this
  have Ofc := Aside0.mk ofc
  clear ofc hof hn
  have hm0 : ((m : Int) == 0) = false := by rw [beq_eq_false_iff_ne]; omega
  have hm1 : U m := hmU
  clear hmz hmU
  have hb : (((getW x 1 1 : Nat) : Int) == 1) = true := by rw [hg]; rfl
  clear hg
  go_enter Try.func43, Try.ntmps43
  go_wp2_with (first | ((with_reducible refine gate_dst (N := 3) rfl ?_); refine bx_ev rfl rfl (N := 3) rfl (s.cells) rfl ?_; intro g hg_g w1 hb_g hk_g; have Hg_g := Aside0.mk hg_g; clear hg_g) | ((with_reducible refine gate_dst (N := 6) rfl ?_); refine al_ev rfl rfl (N := 6) rfl _ (zeroR _) ?_; intro h hg_h w2 hb_h hk_h; have Hg_h := Aside0.mk hg_h; clear hg_h))
  have hgh : h ≠ g := by have := Hg_h.out; have := blk_lt hb_g; omega
  have hgw : w.heap.size ≤ g := by have := Hg_g.out; omega
  have hhw : w.heap.size ≤ h := by have := Hg_h.out; have := hk_g.size; omega
  have hI2 : St RT w2 g s := (St.mk hb_g).kp hk_h (fun h => h)
  have hR2 : St RT w2 h (VS.mk 0 fun _ => 0) := St.mk hb_h
  have K2 := hk_g.trans hk_h
  clear hb_g hb_h hk_g hk_h Hg_g Hg_h
  refine (Ofc.out _).mono ?_
  rintro e w3 ⟨rfl, hk3⟩
  go_wp2_with (first
    | (((with_reducible refine gate_dst (N := 8) rfl ?_); refine al_ev rfl rfl (N := 8) rfl _ (zeroRow _) ?_; intro r hg_r w4 hb_r hk_r; have Hg_r := Aside0.mk hg_r; clear hg_r); have hI4 : St RT w4 g s := (hI2.kp hk3 (fun h => h)).kp hk_r (fun h => h); have hR4 : St RT w4 h (VS.mk 0 fun _ => 0) := (hR2.kp hk3 (fun h => h)).kp hk_r (fun h => h); have hgr : g ≠ r := (by have := Hg_r.out; have := (hI2.kp hk3 (fun h => h)).lt; omega); have hhr : h ≠ r := (by have := Hg_r.out; have := (hR2.kp hk3 (fun h => h)).lt; omega); have hwr : w.heap.size ≤ r := (by have := Hg_r.out; have := (K2.trans hk3).size; omega); have K4 := (K2.trans hk3).trans hk_r)
    | ((with_reducible refine gate_store (t := 119) (p := 8) rfl ?_); refine st_ev rfl rfl rfl r (rowC n0 nm 6 (m : Int)) _ _ rfl rfl hb_r infoRow rfl (rowC_one _ _ _ _) ?_; intro w5 hs5 ks5; have hB5 : Bk w5 r (rowC n0 nm 6 (m : Int)) 119 := ⟨hs5⟩; have r2 : w5.cell? ⟨r, 2, none⟩ = some (.int .i64 6) := hB5.c 2; have r3 : w5.cell? ⟨r, 3, none⟩ = some (.int .u64 (m : Int)) := hB5.c 3; have hI5 := hI4.kp ks5 hgr; have hR5 := hR4.kp ks5 hhr; have K5 : KpN w w5 := K4.then ks5 (fun i hi (e : i = r) => by omega)))
  refine (getr_c x 1 1 _ hx).mono ?_
  rintro e w6 ⟨rfl, hk6⟩
  have hI6 := hI5.kp hk6 (fun h => h)
  have hR6 := hR5.kp hk6 (fun h => h)
  have hB6 := hB5.kp hk6 (fun h => h)
  have r2 : w6.cell? ⟨r, 2, none⟩ = some (.int .i64 6) := hB6.c 2
  have r3 : w6.cell? ⟨r, 3, none⟩ = some (.int .u64 (m : Int)) := hB6.c 3
  have K6 := K5.trans hk6
  go_wp2_with (first | ((with_reducible refine gate_dst (N := 103) rfl ?_); refine wpList_load_row rfl 57 _ rfl g rfl _ (s.cells) (0, 0) _ (hI6.blk) Try.underlying57 rfl infoR ?_) | ((with_reducible refine gate_store (t := 57) (p := 6) rfl ?_); refine st_ev rfl rfl rfl h (s.cells) _ _ rfl rfl (hR6.blk) infoR rfl (VS.one _) ?_; intro wz hs_wz ks_wz))
  refine bodyPost_ret (results_cell_row rfl _ _ h 57 (s.cells) (0, 0) _ rfl (hs_wz) Try.underlying57 rfl infoR) rfl ?_
  exact ⟨rfl, K6.then ks_wz fun i hi (e : i = h) => by omega⟩
set_option maxHeartbeats 8000000 in
set_option maxRecDepth 100000 in
theorem rwrite_F6 (s : VS) (n : Int) (x : Nat) (n0 : Int) (nm : ByteArray) (m : Nat) (hmz : m ≠ 0) (hmU : U m) (hg : getW x 1 1 ≠ 1) (w : World) (hs : s.ok) (hx : U x) (hn : NotFive n) (hof : ofR n = (n0, nm, 6, (m : Int), true)) :
    Calls Try.prog 43 #[.agg s.cells, .int .i64 n, .int .u64 (x : Int)] w fun e w' => e = .returned (.agg (s.set 7 (x &&& m)).cells) ∧ KpN w w' := by
  have b1 := hn.b1
  have b2 := hn.b2
  have b3 := hn.b3
  have b4 := hn.b4
  have b5 := hn.b5
  have ofc : ∀ w, Calls Try.prog 71 #[.int .i64 n] w fun e w' => e = .returned (.tuple #[.agg (rowC n0 nm 6 (m : Int)), .bool true]) ∧ KpN w w' := fun w => by
    have := of_c n w; rw [hof] at this; exact this
  have Ofc := Aside0.mk ofc
  clear ofc hof hn
  have hm0 : ((m : Int) == 0) = false := by rw [beq_eq_false_iff_ne]; omega
  have hm1 : U m := hmU
  clear hmz hmU
  have hb : (((getW x 1 1 : Nat) : Int) == 1) = false := by rw [beq_eq_false_iff_ne]; omega
  clear hg
  go_enter Try.func43, Try.ntmps43
  go_wp2_with (first | ((with_reducible refine gate_dst (N := 3) rfl ?_); refine bx_ev rfl rfl (N := 3) rfl (s.cells) rfl ?_; intro g hg_g w1 hb_g hk_g; have Hg_g := Aside0.mk hg_g; clear hg_g) | ((with_reducible refine gate_dst (N := 6) rfl ?_); refine al_ev rfl rfl (N := 6) rfl _ (zeroR _) ?_; intro h hg_h w2 hb_h hk_h; have Hg_h := Aside0.mk hg_h; clear hg_h))
  have hgh : h ≠ g := by have := Hg_h.out; have := blk_lt hb_g; omega
  have hgw : w.heap.size ≤ g := by have := Hg_g.out; omega
  have hhw : w.heap.size ≤ h := by have := Hg_h.out; have := hk_g.size; omega
  have hI2 : St RT w2 g s := (St.mk hb_g).kp hk_h (fun h => h)
  have hR2 : St RT w2 h (VS.mk 0 fun _ => 0) := St.mk hb_h
  have K2 := hk_g.trans hk_h
  clear hb_g hb_h hk_g hk_h Hg_g Hg_h
  refine (Ofc.out _).mono ?_
  rintro e w3 ⟨rfl, hk3⟩
  go_wp2_with (first
    | (((with_reducible refine gate_dst (N := 8) rfl ?_); refine al_ev rfl rfl (N := 8) rfl _ (zeroRow _) ?_; intro r hg_r w4 hb_r hk_r; have Hg_r := Aside0.mk hg_r; clear hg_r); have hI4 : St RT w4 g s := (hI2.kp hk3 (fun h => h)).kp hk_r (fun h => h); have hR4 : St RT w4 h (VS.mk 0 fun _ => 0) := (hR2.kp hk3 (fun h => h)).kp hk_r (fun h => h); have hgr : g ≠ r := (by have := Hg_r.out; have := (hI2.kp hk3 (fun h => h)).lt; omega); have hhr : h ≠ r := (by have := Hg_r.out; have := (hR2.kp hk3 (fun h => h)).lt; omega); have hwr : w.heap.size ≤ r := (by have := Hg_r.out; have := (K2.trans hk3).size; omega); have K4 := (K2.trans hk3).trans hk_r)
    | ((with_reducible refine gate_store (t := 119) (p := 8) rfl ?_); refine st_ev rfl rfl rfl r (rowC n0 nm 6 (m : Int)) _ _ rfl rfl hb_r infoRow rfl (rowC_one _ _ _ _) ?_; intro w5 hs5 ks5; have hB5 : Bk w5 r (rowC n0 nm 6 (m : Int)) 119 := ⟨hs5⟩; have r2 : w5.cell? ⟨r, 2, none⟩ = some (.int .i64 6) := hB5.c 2; have r3 : w5.cell? ⟨r, 3, none⟩ = some (.int .u64 (m : Int)) := hB5.c 3; have hI5 := hI4.kp ks5 hgr; have hR5 := hR4.kp ks5 hhr; have K5 : KpN w w5 := K4.then ks5 (fun i hi (e : i = r) => by omega)))
  refine (getr_c x 1 1 _ hx).mono ?_
  rintro e w6 ⟨rfl, hk6⟩
  have hI6 := hI5.kp hk6 (fun h => h)
  have hR6 := hR5.kp hk6 (fun h => h)
  have hB6 := hB5.kp hk6 (fun h => h)
  have r2 : w6.cell? ⟨r, 2, none⟩ = some (.int .i64 6) := hB6.c 2
  have r3 : w6.cell? ⟨r, 3, none⟩ = some (.int .u64 (m : Int)) := hB6.c 3
  have K6 := K5.trans hk6
  go_wp2_with (fail)
  refine (getr_c x 60 4 _ hx).mono ?_
  rintro e w7 ⟨rfl, hk7⟩
  have hI7 := hI6.kp hk7 (fun h => h)
  have hR7 := hR6.kp hk7 (fun h => h)
  have hB7 := hB6.kp hk7 (fun h => h)
  have r2 : w7.cell? ⟨r, 2, none⟩ = some (.int .i64 6) := hB7.c 2
  have r3 : w7.cell? ⟨r, 3, none⟩ = some (.int .u64 (m : Int)) := hB7.c 3
  have K7 := K6.trans hk7
  go_wp2_with (fail)
  have cJ := hI7.c 7
  have fJ := hI7.f 7
  go_region_with (go_at_call 45; refine (and_r x m _ hx hm1).mono ?_; rintro e wy ⟨rfl, hky⟩; have hBy := hB7.drew.kp hky (fun h => h); have r2y : wy.cell? ⟨r, 2, none⟩ = some (.int .i64 6) := hBy.c 2; have hIy := hI7.drew.kp hky (fun h => h); have cy := hIy.c 7; have fy := hIy.f 7)
  all_goals
    have hRy := hR7.drew.kp hky (fun h => h)
    have Ky := K7.drew.trans hky
    go_wp2_with (first | ((with_reducible refine gate_dst (N := 126) rfl ?_); refine wpList_load_row rfl 57 _ rfl g rfl _ ((s.set 7 (x &&& m)).cells) (0, 0) _ ((hIy.set 7 _).blk) Try.underlying57 rfl infoR ?_) | ((with_reducible refine gate_store (t := 57) (p := 6) rfl ?_); refine st_ev rfl rfl rfl h ((s.set 7 (x &&& m)).cells) _ _ rfl rfl ((hRy.far hgh _).blk) infoR rfl (VS.one _) ?_; intro wz hs_wz ks_wz))
    refine bodyPost_ret (results_cell_row rfl _ _ h 57 ((s.set 7 (x &&& m)).cells) (0, 0) _ rfl (hs_wz) Try.underlying57 rfl infoR) rfl ?_
    exact ⟨rfl, (Ky.setCell (p := ⟨g, 7, none⟩) (.inr hgw) _).then ks_wz fun i hi (e : i = h) => by omega⟩
set_option maxHeartbeats 8000000 in
set_option maxRecDepth 100000 in
theorem rwrite_D12 (s : VS) (n : Int) (x : Nat) (n0 : Int) (nm : ByteArray) (m : Nat) (hmz : m ≠ 0) (hmU : U m) (hg : getW x 1 1 = 1) (w : World) (hs : s.ok) (hx : U x) (hn : NotFive n) (hof : ofR n = (n0, nm, 12, (m : Int), true)) :
    Calls Try.prog 43 #[.agg s.cells, .int .i64 n, .int .u64 (x : Int)] w fun e w' => e = .returned (.agg (s).cells) ∧ KpN w w' := by
  have b1 := hn.b1
  have b2 := hn.b2
  have b3 := hn.b3
  have b4 := hn.b4
  have b5 := hn.b5
  have ofc : ∀ w, Calls Try.prog 71 #[.int .i64 n] w fun e w' => e = .returned (.tuple #[.agg (rowC n0 nm 12 (m : Int)), .bool true]) ∧ KpN w w' := fun w => by
    have := of_c n w; rw [hof] at this; exact this
  have Ofc := Aside0.mk ofc
  clear ofc hof hn
  have hm0 : ((m : Int) == 0) = false := by rw [beq_eq_false_iff_ne]; omega
  have hm1 : U m := hmU
  clear hmz hmU
  have hb : (((getW x 1 1 : Nat) : Int) == 1) = true := by rw [hg]; rfl
  clear hg
  go_enter Try.func43, Try.ntmps43
  go_wp2_with (first | ((with_reducible refine gate_dst (N := 3) rfl ?_); refine bx_ev rfl rfl (N := 3) rfl (s.cells) rfl ?_; intro g hg_g w1 hb_g hk_g; have Hg_g := Aside0.mk hg_g; clear hg_g) | ((with_reducible refine gate_dst (N := 6) rfl ?_); refine al_ev rfl rfl (N := 6) rfl _ (zeroR _) ?_; intro h hg_h w2 hb_h hk_h; have Hg_h := Aside0.mk hg_h; clear hg_h))
  have hgh : h ≠ g := by have := Hg_h.out; have := blk_lt hb_g; omega
  have hgw : w.heap.size ≤ g := by have := Hg_g.out; omega
  have hhw : w.heap.size ≤ h := by have := Hg_h.out; have := hk_g.size; omega
  have hI2 : St RT w2 g s := (St.mk hb_g).kp hk_h (fun h => h)
  have hR2 : St RT w2 h (VS.mk 0 fun _ => 0) := St.mk hb_h
  have K2 := hk_g.trans hk_h
  clear hb_g hb_h hk_g hk_h Hg_g Hg_h
  refine (Ofc.out _).mono ?_
  rintro e w3 ⟨rfl, hk3⟩
  go_wp2_with (first
    | (((with_reducible refine gate_dst (N := 8) rfl ?_); refine al_ev rfl rfl (N := 8) rfl _ (zeroRow _) ?_; intro r hg_r w4 hb_r hk_r; have Hg_r := Aside0.mk hg_r; clear hg_r); have hI4 : St RT w4 g s := (hI2.kp hk3 (fun h => h)).kp hk_r (fun h => h); have hR4 : St RT w4 h (VS.mk 0 fun _ => 0) := (hR2.kp hk3 (fun h => h)).kp hk_r (fun h => h); have hgr : g ≠ r := (by have := Hg_r.out; have := (hI2.kp hk3 (fun h => h)).lt; omega); have hhr : h ≠ r := (by have := Hg_r.out; have := (hR2.kp hk3 (fun h => h)).lt; omega); have hwr : w.heap.size ≤ r := (by have := Hg_r.out; have := (K2.trans hk3).size; omega); have K4 := (K2.trans hk3).trans hk_r)
    | ((with_reducible refine gate_store (t := 119) (p := 8) rfl ?_); refine st_ev rfl rfl rfl r (rowC n0 nm 12 (m : Int)) _ _ rfl rfl hb_r infoRow rfl (rowC_one _ _ _ _) ?_; intro w5 hs5 ks5; have hB5 : Bk w5 r (rowC n0 nm 12 (m : Int)) 119 := ⟨hs5⟩; have r2 : w5.cell? ⟨r, 2, none⟩ = some (.int .i64 12) := hB5.c 2; have r3 : w5.cell? ⟨r, 3, none⟩ = some (.int .u64 (m : Int)) := hB5.c 3; have hI5 := hI4.kp ks5 hgr; have hR5 := hR4.kp ks5 hhr; have K5 : KpN w w5 := K4.then ks5 (fun i hi (e : i = r) => by omega)))
  refine (getr_c x 1 1 _ hx).mono ?_
  rintro e w6 ⟨rfl, hk6⟩
  have hI6 := hI5.kp hk6 (fun h => h)
  have hR6 := hR5.kp hk6 (fun h => h)
  have hB6 := hB5.kp hk6 (fun h => h)
  have r2 : w6.cell? ⟨r, 2, none⟩ = some (.int .i64 12) := hB6.c 2
  have r3 : w6.cell? ⟨r, 3, none⟩ = some (.int .u64 (m : Int)) := hB6.c 3
  have K6 := K5.trans hk6
  go_wp2_with (first | ((with_reducible refine gate_dst (N := 103) rfl ?_); refine wpList_load_row rfl 57 _ rfl g rfl _ (s.cells) (0, 0) _ (hI6.blk) Try.underlying57 rfl infoR ?_) | ((with_reducible refine gate_store (t := 57) (p := 6) rfl ?_); refine st_ev rfl rfl rfl h (s.cells) _ _ rfl rfl (hR6.blk) infoR rfl (VS.one _) ?_; intro wz hs_wz ks_wz))
  refine bodyPost_ret (results_cell_row rfl _ _ h 57 (s.cells) (0, 0) _ rfl (hs_wz) Try.underlying57 rfl infoR) rfl ?_
  exact ⟨rfl, K6.then ks_wz fun i hi (e : i = h) => by omega⟩
set_option maxHeartbeats 8000000 in
set_option maxRecDepth 100000 in
theorem rwrite_F12 (s : VS) (n : Int) (x : Nat) (n0 : Int) (nm : ByteArray) (m : Nat) (hmz : m ≠ 0) (hmU : U m) (hg : getW x 1 1 ≠ 1) (w : World) (hs : s.ok) (hx : U x) (hn : NotFive n) (hof : ofR n = (n0, nm, 12, (m : Int), true)) :
    Calls Try.prog 43 #[.agg s.cells, .int .i64 n, .int .u64 (x : Int)] w fun e w' => e = .returned (.agg (s.set 13 (x &&& m)).cells) ∧ KpN w w' := by
  have b1 := hn.b1
  have b2 := hn.b2
  have b3 := hn.b3
  have b4 := hn.b4
  have b5 := hn.b5
  have ofc : ∀ w, Calls Try.prog 71 #[.int .i64 n] w fun e w' => e = .returned (.tuple #[.agg (rowC n0 nm 12 (m : Int)), .bool true]) ∧ KpN w w' := fun w => by
    have := of_c n w; rw [hof] at this; exact this
  have Ofc := Aside0.mk ofc
  clear ofc hof hn
  have hm0 : ((m : Int) == 0) = false := by rw [beq_eq_false_iff_ne]; omega
  have hm1 : U m := hmU
  clear hmz hmU
  have hb : (((getW x 1 1 : Nat) : Int) == 1) = false := by rw [beq_eq_false_iff_ne]; omega
  clear hg
  go_enter Try.func43, Try.ntmps43
  go_wp2_with (first | ((with_reducible refine gate_dst (N := 3) rfl ?_); refine bx_ev rfl rfl (N := 3) rfl (s.cells) rfl ?_; intro g hg_g w1 hb_g hk_g; have Hg_g := Aside0.mk hg_g; clear hg_g) | ((with_reducible refine gate_dst (N := 6) rfl ?_); refine al_ev rfl rfl (N := 6) rfl _ (zeroR _) ?_; intro h hg_h w2 hb_h hk_h; have Hg_h := Aside0.mk hg_h; clear hg_h))
  have hgh : h ≠ g := by have := Hg_h.out; have := blk_lt hb_g; omega
  have hgw : w.heap.size ≤ g := by have := Hg_g.out; omega
  have hhw : w.heap.size ≤ h := by have := Hg_h.out; have := hk_g.size; omega
  have hI2 : St RT w2 g s := (St.mk hb_g).kp hk_h (fun h => h)
  have hR2 : St RT w2 h (VS.mk 0 fun _ => 0) := St.mk hb_h
  have K2 := hk_g.trans hk_h
  clear hb_g hb_h hk_g hk_h Hg_g Hg_h
  refine (Ofc.out _).mono ?_
  rintro e w3 ⟨rfl, hk3⟩
  go_wp2_with (first
    | (((with_reducible refine gate_dst (N := 8) rfl ?_); refine al_ev rfl rfl (N := 8) rfl _ (zeroRow _) ?_; intro r hg_r w4 hb_r hk_r; have Hg_r := Aside0.mk hg_r; clear hg_r); have hI4 : St RT w4 g s := (hI2.kp hk3 (fun h => h)).kp hk_r (fun h => h); have hR4 : St RT w4 h (VS.mk 0 fun _ => 0) := (hR2.kp hk3 (fun h => h)).kp hk_r (fun h => h); have hgr : g ≠ r := (by have := Hg_r.out; have := (hI2.kp hk3 (fun h => h)).lt; omega); have hhr : h ≠ r := (by have := Hg_r.out; have := (hR2.kp hk3 (fun h => h)).lt; omega); have hwr : w.heap.size ≤ r := (by have := Hg_r.out; have := (K2.trans hk3).size; omega); have K4 := (K2.trans hk3).trans hk_r)
    | ((with_reducible refine gate_store (t := 119) (p := 8) rfl ?_); refine st_ev rfl rfl rfl r (rowC n0 nm 12 (m : Int)) _ _ rfl rfl hb_r infoRow rfl (rowC_one _ _ _ _) ?_; intro w5 hs5 ks5; have hB5 : Bk w5 r (rowC n0 nm 12 (m : Int)) 119 := ⟨hs5⟩; have r2 : w5.cell? ⟨r, 2, none⟩ = some (.int .i64 12) := hB5.c 2; have r3 : w5.cell? ⟨r, 3, none⟩ = some (.int .u64 (m : Int)) := hB5.c 3; have hI5 := hI4.kp ks5 hgr; have hR5 := hR4.kp ks5 hhr; have K5 : KpN w w5 := K4.then ks5 (fun i hi (e : i = r) => by omega)))
  refine (getr_c x 1 1 _ hx).mono ?_
  rintro e w6 ⟨rfl, hk6⟩
  have hI6 := hI5.kp hk6 (fun h => h)
  have hR6 := hR5.kp hk6 (fun h => h)
  have hB6 := hB5.kp hk6 (fun h => h)
  have r2 : w6.cell? ⟨r, 2, none⟩ = some (.int .i64 12) := hB6.c 2
  have r3 : w6.cell? ⟨r, 3, none⟩ = some (.int .u64 (m : Int)) := hB6.c 3
  have K6 := K5.trans hk6
  go_wp2_with (fail)
  refine (getr_c x 60 4 _ hx).mono ?_
  rintro e w7 ⟨rfl, hk7⟩
  have hI7 := hI6.kp hk7 (fun h => h)
  have hR7 := hR6.kp hk7 (fun h => h)
  have hB7 := hB6.kp hk7 (fun h => h)
  have r2 : w7.cell? ⟨r, 2, none⟩ = some (.int .i64 12) := hB7.c 2
  have r3 : w7.cell? ⟨r, 3, none⟩ = some (.int .u64 (m : Int)) := hB7.c 3
  have K7 := K6.trans hk7
  go_wp2_with (fail)
  have cJ := hI7.c 13
  have fJ := hI7.f 13
  go_region_with (go_at_call 45; refine (and_r x m _ hx hm1).mono ?_; rintro e wy ⟨rfl, hky⟩; have hBy := hB7.drew.kp hky (fun h => h); have r2y : wy.cell? ⟨r, 2, none⟩ = some (.int .i64 12) := hBy.c 2; have hIy := hI7.drew.kp hky (fun h => h); have cy := hIy.c 13; have fy := hIy.f 13)
  all_goals
    have hRy := hR7.drew.kp hky (fun h => h)
    have Ky := K7.drew.trans hky
    go_wp2_with (first | ((with_reducible refine gate_dst (N := 126) rfl ?_); refine wpList_load_row rfl 57 _ rfl g rfl _ ((s.set 13 (x &&& m)).cells) (0, 0) _ ((hIy.set 13 _).blk) Try.underlying57 rfl infoR ?_) | ((with_reducible refine gate_store (t := 57) (p := 6) rfl ?_); refine st_ev rfl rfl rfl h ((s.set 13 (x &&& m)).cells) _ _ rfl rfl ((hRy.far hgh _).blk) infoR rfl (VS.one _) ?_; intro wz hs_wz ks_wz))
    refine bodyPost_ret (results_cell_row rfl _ _ h 57 ((s.set 13 (x &&& m)).cells) (0, 0) _ rfl (hs_wz) Try.underlying57 rfl infoR) rfl ?_
    exact ⟨rfl, (Ky.setCell (p := ⟨g, 13, none⟩) (.inr hgw) _).then ks_wz fun i hi (e : i = h) => by omega⟩
set_option maxHeartbeats 8000000 in
set_option maxRecDepth 100000 in
theorem rwrite_E (s : VS) (n : Int) (x : Nat) (n0 : Int) (nm : ByteArray) (m : Nat) (hmz : m ≠ 0) (hmU : U m) (h0 : getW x 60 4 ≠ 0) (h8 : getW x 60 4 ≠ 8) (w : World) (hs : s.ok) (hx : U x) (hn : NotFive n) (hof : ofR n = (n0, nm, 18, (m : Int), true)) :
    Calls Try.prog 43 #[.agg s.cells, .int .i64 n, .int .u64 (x : Int)] w fun e w' => e = .returned (.agg (s).cells) ∧ KpN w w' := by
  have b1 := hn.b1
  have b2 := hn.b2
  have b3 := hn.b3
  have b4 := hn.b4
  have b5 := hn.b5
  have ofc : ∀ w, Calls Try.prog 71 #[.int .i64 n] w fun e w' => e = .returned (.tuple #[.agg (rowC n0 nm 18 (m : Int)), .bool true]) ∧ KpN w w' := fun w => by
    have := of_c n w; rw [hof] at this; exact this
  have Ofc := Aside0.mk ofc
  clear ofc hof hn
  have hm0 : ((m : Int) == 0) = false := by rw [beq_eq_false_iff_ne]; omega
  have hm1 : U m := hmU
  clear hmz hmU
  have hb : (((getW x 60 4 : Nat) : Int) != 0) = true := by rw [bne_iff_ne]; omega
  have hb8 : (((getW x 60 4 : Nat) : Int) != 8) = true := by rw [bne_iff_ne]; omega
  clear h0 h8
  go_enter Try.func43, Try.ntmps43
  go_wp2_with (first | ((with_reducible refine gate_dst (N := 3) rfl ?_); refine bx_ev rfl rfl (N := 3) rfl (s.cells) rfl ?_; intro g hg_g w1 hb_g hk_g; have Hg_g := Aside0.mk hg_g; clear hg_g) | ((with_reducible refine gate_dst (N := 6) rfl ?_); refine al_ev rfl rfl (N := 6) rfl _ (zeroR _) ?_; intro h hg_h w2 hb_h hk_h; have Hg_h := Aside0.mk hg_h; clear hg_h))
  have hgh : h ≠ g := by have := Hg_h.out; have := blk_lt hb_g; omega
  have hgw : w.heap.size ≤ g := by have := Hg_g.out; omega
  have hhw : w.heap.size ≤ h := by have := Hg_h.out; have := hk_g.size; omega
  have hI2 : St RT w2 g s := (St.mk hb_g).kp hk_h (fun h => h)
  have hR2 : St RT w2 h (VS.mk 0 fun _ => 0) := St.mk hb_h
  have K2 := hk_g.trans hk_h
  clear hb_g hb_h hk_g hk_h Hg_g Hg_h
  refine (Ofc.out _).mono ?_
  rintro e w3 ⟨rfl, hk3⟩
  go_wp2_with (first
    | (((with_reducible refine gate_dst (N := 8) rfl ?_); refine al_ev rfl rfl (N := 8) rfl _ (zeroRow _) ?_; intro r hg_r w4 hb_r hk_r; have Hg_r := Aside0.mk hg_r; clear hg_r); have hI4 : St RT w4 g s := (hI2.kp hk3 (fun h => h)).kp hk_r (fun h => h); have hR4 : St RT w4 h (VS.mk 0 fun _ => 0) := (hR2.kp hk3 (fun h => h)).kp hk_r (fun h => h); have hgr : g ≠ r := (by have := Hg_r.out; have := (hI2.kp hk3 (fun h => h)).lt; omega); have hhr : h ≠ r := (by have := Hg_r.out; have := (hR2.kp hk3 (fun h => h)).lt; omega); have hwr : w.heap.size ≤ r := (by have := Hg_r.out; have := (K2.trans hk3).size; omega); have K4 := (K2.trans hk3).trans hk_r)
    | ((with_reducible refine gate_store (t := 119) (p := 8) rfl ?_); refine st_ev rfl rfl rfl r (rowC n0 nm 18 (m : Int)) _ _ rfl rfl hb_r infoRow rfl (rowC_one _ _ _ _) ?_; intro w5 hs5 ks5; have hB5 : Bk w5 r (rowC n0 nm 18 (m : Int)) 119 := ⟨hs5⟩; have r2 : w5.cell? ⟨r, 2, none⟩ = some (.int .i64 18) := hB5.c 2; have r3 : w5.cell? ⟨r, 3, none⟩ = some (.int .u64 (m : Int)) := hB5.c 3; have hI5 := hI4.kp ks5 hgr; have hR5 := hR4.kp ks5 hhr; have K5 : KpN w w5 := K4.then ks5 (fun i hi (e : i = r) => by omega)))
  refine (getr_c x 60 4 _ hx).mono ?_
  rintro e w6 ⟨rfl, hk6⟩
  have hI6 := hI5.kp hk6 (fun h => h)
  have hR6 := hR5.kp hk6 (fun h => h)
  have hB6 := hB5.kp hk6 (fun h => h)
  have r2 : w6.cell? ⟨r, 2, none⟩ = some (.int .i64 18) := hB6.c 2
  have r3 : w6.cell? ⟨r, 3, none⟩ = some (.int .u64 (m : Int)) := hB6.c 3
  have K6 := K5.trans hk6
  go_wp2_with (first | ((with_reducible refine gate_dst (N := 117) rfl ?_); refine wpList_load_row rfl 57 _ rfl g rfl _ (s.cells) (0, 0) _ (hI6.blk) Try.underlying57 rfl infoR ?_) | ((with_reducible refine gate_store (t := 57) (p := 6) rfl ?_); refine st_ev rfl rfl rfl h (s.cells) _ _ rfl rfl (hR6.blk) infoR rfl (VS.one _) ?_; intro wz hs_wz ks_wz))
  refine bodyPost_ret (results_cell_row rfl _ _ h 57 (s.cells) (0, 0) _ rfl (hs_wz) Try.underlying57 rfl infoR) rfl ?_
  exact ⟨rfl, K6.then ks_wz fun i hi (e : i = h) => by omega⟩
set_option maxHeartbeats 8000000 in
set_option maxRecDepth 100000 in
theorem rwrite_F18a (s : VS) (n : Int) (x : Nat) (n0 : Int) (nm : ByteArray) (m : Nat) (hmz : m ≠ 0) (hmU : U m) (h0 : getW x 60 4 = 0) (w : World) (hs : s.ok) (hx : U x) (hn : NotFive n) (hof : ofR n = (n0, nm, 18, (m : Int), true)) :
    Calls Try.prog 43 #[.agg s.cells, .int .i64 n, .int .u64 (x : Int)] w fun e w' => e = .returned (.agg (s.set 19 (x &&& m)).cells) ∧ KpN w w' := by
  have b1 := hn.b1
  have b2 := hn.b2
  have b3 := hn.b3
  have b4 := hn.b4
  have b5 := hn.b5
  have ofc : ∀ w, Calls Try.prog 71 #[.int .i64 n] w fun e w' => e = .returned (.tuple #[.agg (rowC n0 nm 18 (m : Int)), .bool true]) ∧ KpN w w' := fun w => by
    have := of_c n w; rw [hof] at this; exact this
  have Ofc := Aside0.mk ofc
  clear ofc hof hn
  have hm0 : ((m : Int) == 0) = false := by rw [beq_eq_false_iff_ne]; omega
  have hm1 : U m := hmU
  clear hmz hmU
  have hb : (((getW x 60 4 : Nat) : Int) != 0) = false := by rw [h0]; rfl
  clear h0
  go_enter Try.func43, Try.ntmps43
  go_wp2_with (first | ((with_reducible refine gate_dst (N := 3) rfl ?_); refine bx_ev rfl rfl (N := 3) rfl (s.cells) rfl ?_; intro g hg_g w1 hb_g hk_g; have Hg_g := Aside0.mk hg_g; clear hg_g) | ((with_reducible refine gate_dst (N := 6) rfl ?_); refine al_ev rfl rfl (N := 6) rfl _ (zeroR _) ?_; intro h hg_h w2 hb_h hk_h; have Hg_h := Aside0.mk hg_h; clear hg_h))
  have hgh : h ≠ g := by have := Hg_h.out; have := blk_lt hb_g; omega
  have hgw : w.heap.size ≤ g := by have := Hg_g.out; omega
  have hhw : w.heap.size ≤ h := by have := Hg_h.out; have := hk_g.size; omega
  have hI2 : St RT w2 g s := (St.mk hb_g).kp hk_h (fun h => h)
  have hR2 : St RT w2 h (VS.mk 0 fun _ => 0) := St.mk hb_h
  have K2 := hk_g.trans hk_h
  clear hb_g hb_h hk_g hk_h Hg_g Hg_h
  refine (Ofc.out _).mono ?_
  rintro e w3 ⟨rfl, hk3⟩
  go_wp2_with (first
    | (((with_reducible refine gate_dst (N := 8) rfl ?_); refine al_ev rfl rfl (N := 8) rfl _ (zeroRow _) ?_; intro r hg_r w4 hb_r hk_r; have Hg_r := Aside0.mk hg_r; clear hg_r); have hI4 : St RT w4 g s := (hI2.kp hk3 (fun h => h)).kp hk_r (fun h => h); have hR4 : St RT w4 h (VS.mk 0 fun _ => 0) := (hR2.kp hk3 (fun h => h)).kp hk_r (fun h => h); have hgr : g ≠ r := (by have := Hg_r.out; have := (hI2.kp hk3 (fun h => h)).lt; omega); have hhr : h ≠ r := (by have := Hg_r.out; have := (hR2.kp hk3 (fun h => h)).lt; omega); have hwr : w.heap.size ≤ r := (by have := Hg_r.out; have := (K2.trans hk3).size; omega); have K4 := (K2.trans hk3).trans hk_r)
    | ((with_reducible refine gate_store (t := 119) (p := 8) rfl ?_); refine st_ev rfl rfl rfl r (rowC n0 nm 18 (m : Int)) _ _ rfl rfl hb_r infoRow rfl (rowC_one _ _ _ _) ?_; intro w5 hs5 ks5; have hB5 : Bk w5 r (rowC n0 nm 18 (m : Int)) 119 := ⟨hs5⟩; have r2 : w5.cell? ⟨r, 2, none⟩ = some (.int .i64 18) := hB5.c 2; have r3 : w5.cell? ⟨r, 3, none⟩ = some (.int .u64 (m : Int)) := hB5.c 3; have hI5 := hI4.kp ks5 hgr; have hR5 := hR4.kp ks5 hhr; have K5 : KpN w w5 := K4.then ks5 (fun i hi (e : i = r) => by omega)))
  refine (getr_c x 60 4 _ hx).mono ?_
  rintro e w6 ⟨rfl, hk6⟩
  have hI6 := hI5.kp hk6 (fun h => h)
  have hR6 := hR5.kp hk6 (fun h => h)
  have hB6 := hB5.kp hk6 (fun h => h)
  have r2 : w6.cell? ⟨r, 2, none⟩ = some (.int .i64 18) := hB6.c 2
  have r3 : w6.cell? ⟨r, 3, none⟩ = some (.int .u64 (m : Int)) := hB6.c 3
  have K6 := K5.trans hk6
  go_wp2_with (fail)
  have cJ := hI6.c 19
  have fJ := hI6.f 19
  go_region_with (go_at_call 45; refine (and_r x m _ hx hm1).mono ?_; rintro e wy ⟨rfl, hky⟩; have hBy := hB6.drew.kp hky (fun h => h); have r2y : wy.cell? ⟨r, 2, none⟩ = some (.int .i64 18) := hBy.c 2; have hIy := hI6.drew.kp hky (fun h => h); have cy := hIy.c 19; have fy := hIy.f 19)
  all_goals
    have hRy := hR6.drew.kp hky (fun h => h)
    have Ky := K6.drew.trans hky
    go_wp2_with (first | ((with_reducible refine gate_dst (N := 126) rfl ?_); refine wpList_load_row rfl 57 _ rfl g rfl _ ((s.set 19 (x &&& m)).cells) (0, 0) _ ((hIy.set 19 _).blk) Try.underlying57 rfl infoR ?_) | ((with_reducible refine gate_store (t := 57) (p := 6) rfl ?_); refine st_ev rfl rfl rfl h ((s.set 19 (x &&& m)).cells) _ _ rfl rfl ((hRy.far hgh _).blk) infoR rfl (VS.one _) ?_; intro wz hs_wz ks_wz))
    refine bodyPost_ret (results_cell_row rfl _ _ h 57 ((s.set 19 (x &&& m)).cells) (0, 0) _ rfl (hs_wz) Try.underlying57 rfl infoR) rfl ?_
    exact ⟨rfl, (Ky.setCell (p := ⟨g, 19, none⟩) (.inr hgw) _).then ks_wz fun i hi (e : i = h) => by omega⟩
set_option maxHeartbeats 8000000 in
set_option maxRecDepth 100000 in
theorem rwrite_F18b (s : VS) (n : Int) (x : Nat) (n0 : Int) (nm : ByteArray) (m : Nat) (hmz : m ≠ 0) (hmU : U m) (h8 : getW x 60 4 = 8) (w : World) (hs : s.ok) (hx : U x) (hn : NotFive n) (hof : ofR n = (n0, nm, 18, (m : Int), true)) :
    Calls Try.prog 43 #[.agg s.cells, .int .i64 n, .int .u64 (x : Int)] w fun e w' => e = .returned (.agg (s.set 19 (x &&& m)).cells) ∧ KpN w w' := by
  have b1 := hn.b1
  have b2 := hn.b2
  have b3 := hn.b3
  have b4 := hn.b4
  have b5 := hn.b5
  have ofc : ∀ w, Calls Try.prog 71 #[.int .i64 n] w fun e w' => e = .returned (.tuple #[.agg (rowC n0 nm 18 (m : Int)), .bool true]) ∧ KpN w w' := fun w => by
    have := of_c n w; rw [hof] at this; exact this
  have Ofc := Aside0.mk ofc
  clear ofc hof hn
  have hm0 : ((m : Int) == 0) = false := by rw [beq_eq_false_iff_ne]; omega
  have hm1 : U m := hmU
  clear hmz hmU
  have hb : (((getW x 60 4 : Nat) : Int) != 0) = true := by rw [h8]; rfl
  have hb8 : (((getW x 60 4 : Nat) : Int) != 8) = false := by rw [h8]; rfl
  clear h8
  go_enter Try.func43, Try.ntmps43
  go_wp2_with (first | ((with_reducible refine gate_dst (N := 3) rfl ?_); refine bx_ev rfl rfl (N := 3) rfl (s.cells) rfl ?_; intro g hg_g w1 hb_g hk_g; have Hg_g := Aside0.mk hg_g; clear hg_g) | ((with_reducible refine gate_dst (N := 6) rfl ?_); refine al_ev rfl rfl (N := 6) rfl _ (zeroR _) ?_; intro h hg_h w2 hb_h hk_h; have Hg_h := Aside0.mk hg_h; clear hg_h))
  have hgh : h ≠ g := by have := Hg_h.out; have := blk_lt hb_g; omega
  have hgw : w.heap.size ≤ g := by have := Hg_g.out; omega
  have hhw : w.heap.size ≤ h := by have := Hg_h.out; have := hk_g.size; omega
  have hI2 : St RT w2 g s := (St.mk hb_g).kp hk_h (fun h => h)
  have hR2 : St RT w2 h (VS.mk 0 fun _ => 0) := St.mk hb_h
  have K2 := hk_g.trans hk_h
  clear hb_g hb_h hk_g hk_h Hg_g Hg_h
  refine (Ofc.out _).mono ?_
  rintro e w3 ⟨rfl, hk3⟩
  go_wp2_with (first
    | (((with_reducible refine gate_dst (N := 8) rfl ?_); refine al_ev rfl rfl (N := 8) rfl _ (zeroRow _) ?_; intro r hg_r w4 hb_r hk_r; have Hg_r := Aside0.mk hg_r; clear hg_r); have hI4 : St RT w4 g s := (hI2.kp hk3 (fun h => h)).kp hk_r (fun h => h); have hR4 : St RT w4 h (VS.mk 0 fun _ => 0) := (hR2.kp hk3 (fun h => h)).kp hk_r (fun h => h); have hgr : g ≠ r := (by have := Hg_r.out; have := (hI2.kp hk3 (fun h => h)).lt; omega); have hhr : h ≠ r := (by have := Hg_r.out; have := (hR2.kp hk3 (fun h => h)).lt; omega); have hwr : w.heap.size ≤ r := (by have := Hg_r.out; have := (K2.trans hk3).size; omega); have K4 := (K2.trans hk3).trans hk_r)
    | ((with_reducible refine gate_store (t := 119) (p := 8) rfl ?_); refine st_ev rfl rfl rfl r (rowC n0 nm 18 (m : Int)) _ _ rfl rfl hb_r infoRow rfl (rowC_one _ _ _ _) ?_; intro w5 hs5 ks5; have hB5 : Bk w5 r (rowC n0 nm 18 (m : Int)) 119 := ⟨hs5⟩; have r2 : w5.cell? ⟨r, 2, none⟩ = some (.int .i64 18) := hB5.c 2; have r3 : w5.cell? ⟨r, 3, none⟩ = some (.int .u64 (m : Int)) := hB5.c 3; have hI5 := hI4.kp ks5 hgr; have hR5 := hR4.kp ks5 hhr; have K5 : KpN w w5 := K4.then ks5 (fun i hi (e : i = r) => by omega)))
  refine (getr_c x 60 4 _ hx).mono ?_
  rintro e w6 ⟨rfl, hk6⟩
  have hI6 := hI5.kp hk6 (fun h => h)
  have hR6 := hR5.kp hk6 (fun h => h)
  have hB6 := hB5.kp hk6 (fun h => h)
  have r2 : w6.cell? ⟨r, 2, none⟩ = some (.int .i64 18) := hB6.c 2
  have r3 : w6.cell? ⟨r, 3, none⟩ = some (.int .u64 (m : Int)) := hB6.c 3
  have K6 := K5.trans hk6
  go_wp2_with (fail)
  have cJ := hI6.c 19
  have fJ := hI6.f 19
  go_region_with (go_at_call 45; refine (and_r x m _ hx hm1).mono ?_; rintro e wy ⟨rfl, hky⟩; have hBy := hB6.drew.kp hky (fun h => h); have r2y : wy.cell? ⟨r, 2, none⟩ = some (.int .i64 18) := hBy.c 2; have hIy := hI6.drew.kp hky (fun h => h); have cy := hIy.c 19; have fy := hIy.f 19)
  all_goals
    have hRy := hR6.drew.kp hky (fun h => h)
    have Ky := K6.drew.trans hky
    go_wp2_with (first | ((with_reducible refine gate_dst (N := 126) rfl ?_); refine wpList_load_row rfl 57 _ rfl g rfl _ ((s.set 19 (x &&& m)).cells) (0, 0) _ ((hIy.set 19 _).blk) Try.underlying57 rfl infoR ?_) | ((with_reducible refine gate_store (t := 57) (p := 6) rfl ?_); refine st_ev rfl rfl rfl h ((s.set 19 (x &&& m)).cells) _ _ rfl rfl ((hRy.far hgh _).blk) infoR rfl (VS.one _) ?_; intro wz hs_wz ks_wz))
    refine bodyPost_ret (results_cell_row rfl _ _ h 57 ((s.set 19 (x &&& m)).cells) (0, 0) _ rfl (hs_wz) Try.underlying57 rfl infoR) rfl ?_
    exact ⟨rfl, (Ky.setCell (p := ⟨g, 19, none⟩) (.inr hgw) _).then ks_wz fun i hi (e : i = h) => by omega⟩
set_option maxHeartbeats 8000000 in
set_option maxRecDepth 100000 in
theorem rwrite_G (s : VS) (n : Int) (x : Nat) (n0 : Int) (nm : ByteArray) (j : Nat) (hj : j ≤ 21) (j6 : j ≠ 6) (j12 : j ≠ 12) (j18 : j ≠ 18) (m : Nat) (hmz : m ≠ 0) (hmU : U m) (w : World) (hs : s.ok) (hx : U x) (hn : NotFive n) (hof : ofR n = (n0, nm, (j : Int), (m : Int), true)) :
    Calls Try.prog 43 #[.agg s.cells, .int .i64 n, .int .u64 (x : Int)] w fun e w' => e = .returned (.agg (s.set (1 + j) (x &&& m)).cells) ∧ KpN w w' := by
  have b1 := hn.b1
  have b2 := hn.b2
  have b3 := hn.b3
  have b4 := hn.b4
  have b5 := hn.b5
  have ofc : ∀ w, Calls Try.prog 71 #[.int .i64 n] w fun e w' => e = .returned (.tuple #[.agg (rowC n0 nm (j : Int) (m : Int)), .bool true]) ∧ KpN w w' := fun w => by
    have := of_c n w; rw [hof] at this; exact this
  have Ofc := Aside0.mk ofc
  clear ofc hof hn
  have hm0 : ((m : Int) == 0) = false := by rw [beq_eq_false_iff_ne]; omega
  have hm1 : U m := hmU
  clear hmz hmU
  have q0 : decide ((j : Int) < 0) = false := decide_eq_false (by omega)
  have q1 : ((j : Int) == 6) = false := by rw [beq_eq_false_iff_ne]; omega
  have q2 : ((j : Int) == 12) = false := by rw [beq_eq_false_iff_ne]; omega
  have q3 : ((j : Int) == 18) = false := by rw [beq_eq_false_iff_ne]; omega
  have p0 : (0 : Int) ≤ (j : Int) := by omega
  have p1 : (j : Int) < 22 := by omega
  clear j6 j12 j18
  go_enter Try.func43, Try.ntmps43
  go_wp2_with (first | ((with_reducible refine gate_dst (N := 3) rfl ?_); refine bx_ev rfl rfl (N := 3) rfl (s.cells) rfl ?_; intro g hg_g w1 hb_g hk_g; have Hg_g := Aside0.mk hg_g; clear hg_g) | ((with_reducible refine gate_dst (N := 6) rfl ?_); refine al_ev rfl rfl (N := 6) rfl _ (zeroR _) ?_; intro h hg_h w2 hb_h hk_h; have Hg_h := Aside0.mk hg_h; clear hg_h))
  have hgh : h ≠ g := by have := Hg_h.out; have := blk_lt hb_g; omega
  have hgw : w.heap.size ≤ g := by have := Hg_g.out; omega
  have hhw : w.heap.size ≤ h := by have := Hg_h.out; have := hk_g.size; omega
  have hI2 : St RT w2 g s := (St.mk hb_g).kp hk_h (fun h => h)
  have hR2 : St RT w2 h (VS.mk 0 fun _ => 0) := St.mk hb_h
  have K2 := hk_g.trans hk_h
  clear hb_g hb_h hk_g hk_h Hg_g Hg_h
  refine (Ofc.out _).mono ?_
  rintro e w3 ⟨rfl, hk3⟩
  go_wp2_with (first
    | (((with_reducible refine gate_dst (N := 8) rfl ?_); refine al_ev rfl rfl (N := 8) rfl _ (zeroRow _) ?_; intro r hg_r w4 hb_r hk_r; have Hg_r := Aside0.mk hg_r; clear hg_r); have hI4 : St RT w4 g s := (hI2.kp hk3 (fun h => h)).kp hk_r (fun h => h); have hR4 : St RT w4 h (VS.mk 0 fun _ => 0) := (hR2.kp hk3 (fun h => h)).kp hk_r (fun h => h); have hgr : g ≠ r := (by have := Hg_r.out; have := (hI2.kp hk3 (fun h => h)).lt; omega); have hhr : h ≠ r := (by have := Hg_r.out; have := (hR2.kp hk3 (fun h => h)).lt; omega); have hwr : w.heap.size ≤ r := (by have := Hg_r.out; have := (K2.trans hk3).size; omega); have K4 := (K2.trans hk3).trans hk_r)
    | ((with_reducible refine gate_store (t := 119) (p := 8) rfl ?_); refine st_ev rfl rfl rfl r (rowC n0 nm (j : Int) (m : Int)) _ _ rfl rfl hb_r infoRow rfl (rowC_one _ _ _ _) ?_; intro w5 hs5 ks5; have hB5 : Bk w5 r (rowC n0 nm (j : Int) (m : Int)) 119 := ⟨hs5⟩; have r2 : w5.cell? ⟨r, 2, none⟩ = some (.int .i64 (j : Int)) := hB5.c 2; have r3 : w5.cell? ⟨r, 3, none⟩ = some (.int .u64 (m : Int)) := hB5.c 3; have hI5 := hI4.kp ks5 hgr; have hR5 := hR4.kp ks5 hhr; have K5 : KpN w w5 := K4.then ks5 (fun i hi (e : i = r) => by omega)))
  refine (getr_c x 60 4 _ hx).mono ?_
  rintro e w6 ⟨rfl, hk6⟩
  have hI6 := hI5.kp hk6 (fun h => h)
  have hR6 := hR5.kp hk6 (fun h => h)
  have hB6 := hB5.kp hk6 (fun h => h)
  have r2 : w6.cell? ⟨r, 2, none⟩ = some (.int .i64 (j : Int)) := hB6.c 2
  have r3 : w6.cell? ⟨r, 3, none⟩ = some (.int .u64 (m : Int)) := hB6.c 3
  have K6 := K5.trans hk6
  go_wp2_with (fail)
  have cJ := hI6.c (1 + j) (by omega) (by omega)
  have fJ := hI6.f (1 + j)
  go_region_with (go_at_call 45; refine (and_r x m _ hx hm1).mono ?_; rintro e wy ⟨rfl, hky⟩; have hBy := hB6.drew.kp hky (fun h => h); have r2y : wy.cell? ⟨r, 2, none⟩ = some (.int .i64 (j : Int)) := hBy.c 2; have hIy := hI6.drew.kp hky (fun h => h); have cy := hIy.c (1 + j) (by omega) (by omega); have fy := hIy.f (1 + j))
  all_goals
    have hRy := hR6.drew.kp hky (fun h => h)
    have Ky := K6.drew.trans hky
    go_wp2_with (first | ((with_reducible refine gate_dst (N := 126) rfl ?_); refine wpList_load_row rfl 57 _ rfl g rfl _ ((s.set (1 + j) (x &&& m)).cells) (0, 0) _ ((hIy.set (1 + j) _ (by omega) (by omega)).blk) Try.underlying57 rfl infoR ?_) | ((with_reducible refine gate_store (t := 57) (p := 6) rfl ?_); refine st_ev rfl rfl rfl h ((s.set (1 + j) (x &&& m)).cells) _ _ rfl rfl ((hRy.far hgh _).blk) infoR rfl (VS.one _) ?_; intro wz hs_wz ks_wz))
    refine bodyPost_ret (results_cell_row rfl _ _ h 57 ((s.set (1 + j) (x &&& m)).cells) (0, 0) _ rfl (hs_wz) Try.underlying57 rfl infoR) rfl ?_
    exact ⟨rfl, (Ky.setCell (p := ⟨g, (1 + j), none⟩) (.inr hgw) _).then ks_wz fun i hi (e : i = h) => by omega⟩
end Go.Proofs.Ytlhdildnekllhaa.H
