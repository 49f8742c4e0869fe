/- TrapAsks, walked by hand: who may wait and fence; the causes of calls and faults. -/
import Derived.Test.YtnknfepbekaobaaTd
namespace Go.Proofs.Ytnknfepbekaobaa.H
open Go.RowKit Go.Proofs.YtnknfepbekaobaaW.PrintWords Go.Proofs.YtnknfepbekaobaaW.PrintLast Go.Proofs.Ytnknfepbekaobaa.PAl Go.Proofs.Ytnknfepbekaobaa.Pure Go.Proofs.Ytnknfepbekaobaa.Vw
set_option linter.unusedVariables false
set_option linter.unusedSimpArgs false
open Go.Sort
theorem fault_eq1 (k : Int) : faultW k true = rfaultW k 1 := by
  unfold faultW rfaultW kKind
  by_cases h : k = 0
  · rw [if_pos h, if_pos h]; rfl
  by_cases h1 : k = 1
  · rw [if_neg h, if_pos h1, if_neg h, if_pos h1]; rfl
  · rw [if_neg h, if_neg h1, if_neg h, if_neg h1]; rfl
theorem fault_eq0 (k : Int) : faultW k false = rfaultW k 0 := by
  unfold faultW rfaultW kKind
  by_cases h : k = 0
  · rw [if_pos h, if_pos h]; rfl
  by_cases h1 : k = 1
  · rw [if_neg h, if_pos h1, if_neg h, if_pos h1]; rfl
  · rw [if_neg h, if_neg h1, if_neg h, if_neg h1]; rfl
theorem crooked_eq (k : Int) : crookedW k = rfaultW k 2 := by
  unfold crookedW rfaultW kKind
  by_cases h : k = 0
  · rw [if_pos h, if_pos h]; rfl
  by_cases h1 : k = 1
  · rw [if_neg h, if_pos h1, if_neg h, if_pos h1]; rfl
  · rw [if_neg h, if_neg h1, if_neg h, if_neg h1]; rfl
set_option maxHeartbeats 8000000 in
set_option maxRecDepth 100000 in
theorem task0p_no (m : Int) (A : Option Addr) (c : Nat) (l : Nat) (xs : List WR) (kd : Int) (w : World) (hC : Kd.C k68 w A xs.length xs) (hb : ¬ bgOk m xs.length) :
    Calls Try.prog 8 #[.agg (startC m A xs.length c (l : Int)), .int .i64 kd, .bool true] w fun e w' => e = .returned (.bool true) ∧ Below w.heap.size w w' := by
  have Hb := Aside0.mk hb
  clear hb
  go_enter Try.func8, Try.ntmps8
  go_wp2_with (first
    | ((with_reducible refine gate_dst (N := 3) rfl ?_); refine bx_ev rfl rfl (N := 3) rfl (startC m A xs.length c (l : Int)) rfl ?_; intro g hg_g w1 hb_g hk_g; have Hg_g := Aside0.mk hg_g; clear hg_g)
    | (go_at_call 9; refine (awake9_c _).mono ?_; rintro e w2 ⟨rfl, hk2⟩; have hG2 := (Bk.mk hb_g).kp hk2 (fun h => h); have hC2 : Kd.C k68 w2 A xs.length xs := Kd.C_below hC ((hk_g.trans hk2).below (fun _ _ h => h.elim) (Nat.le_refl _)))
    | ((with_reducible refine gate_dst (N := 15) rfl ?_); refine wpList_load_row rfl 25 _ rfl g rfl _ (startC m A xs.length c (l : Int)) (0, 0) _ (hG2.blk) Try.underlying25 rfl infoS ?_)
    | (go_at_call 10; refine ((begun_no m A c l xs _ Hb.out)).mono ?_; rintro e w3 ⟨rfl, hk3⟩)
    | ((with_reducible refine gate_dst (N := 7) rfl ?_); refine al_ev rfl rfl (N := 7) rfl _ (zeroF _) ?_; intro f hg_f w4 hb_f hk_f; have Hg_f := Aside0.mk hg_f; clear hg_f)
    | ((with_reducible refine gate_dst (N := 8) rfl ?_); refine al_ev rfl rfl (N := 8) rfl _ (zeroR _) ?_; intro p hg_p w5 hb_p hk_p; have Hg_p := Aside0.mk hg_p; clear hg_p)
    | (((with_reducible refine gate_store (t := 31) (p := 7) rfl ?_); refine st_ev rfl rfl rfl f (vs0.cells) _ _ rfl rfl (((Bk.mk hb_f).kp hk_p (fun h => h)).blk) infoF rfl (VS.one _) ?_; intro w6 hs_w6 ks_w6); have hpf : p ≠ f := (by have := Hg_p.out; have := blk_lt hb_f; omega); have hP6 := (Bk.mk hb_p).kp ks_w6 hpf)
    | (((with_reducible refine gate_store (t := 34) (p := 8) rfl ?_); refine st_ev rfl rfl rfl p (vs0.cells) _ _ rfl rfl (hP6.blk) infoR rfl (VS.one _) ?_; intro w7 hs_w7 ks_w7); have hI : St FT w7 f vs0 := (St.mk hs_w6).kp ks_w7 (fun e : f = p => hpf e.symm); have hP : St RT w7 p vs0 := St.mk hs_w7; have hfw : w.heap.size ≤ f := (by have := Hg_f.out; have := ((hk_g.trans hk2).trans hk3).size; omega); have hpw : w.heap.size ≤ p := (by have := Hg_p.out; have := (((hk_g.trans hk2).trans hk3).trans hk_f).size; omega); have K7 : KpN w w7 := ((((((hk_g.trans hk2).trans hk3).trans hk_f).trans hk_p).then ks_w6 fun i hi (e : i = f) => by omega).then ks_w7 fun i hi (e : i = p) => by omega); clear hb_g hk_g Hg_g hk2 hG2 hC2 hk3 hb_f hk_f Hg_f hb_p hk_p Hg_p hs_w6 ks_w6 hP6 hs_w7 ks_w7))
  go_ret
  exact ⟨rfl, K7.below (fun _ _ h => h.elim) (Nat.le_refl _)⟩
set_option maxHeartbeats 8000000 in
set_option maxRecDepth 100000 in
theorem task0p_yes (m : Int) (A : Option Addr) (c : Nat) (l : Nat) (xs : List WR) (kd : Int) (w : World) (hC : Kd.C k68 w A xs.length xs) (hx : wrOk xs) (hl : U l) (hb : bgOk m xs.length) (hm0 : ∀ S : VS, bgF m xs l = S → S.m = 0) :
    Calls Try.prog 8 #[.agg (startC m A xs.length c (l : Int)), .int .i64 kd, .bool true] w fun e w' => e = .returned (.bool true) ∧ Below w.heap.size w w' := by
  have Hb := Aside0.mk hb
  have hRel := Rel.bg hx m l
  have hF : (bgF m xs l).ok := bgF_ok hx hl m
  have hR : (bgR m xs l).ok := bgR_ok hx hl m
  obtain ⟨S, hS⟩ : ∃ S, bgF m xs l = S := ⟨_, rfl⟩
  obtain ⟨R, hRR⟩ : ∃ R, bgR m xs l = R := ⟨_, rfl⟩
  have hmS : S.m = m := by rw [← hS]; rfl
  rw [hS] at hF hRel
  rw [hRR] at hR hRel
  have by_ := fun w hC => begun_yes m A c l xs w Hb.out hC hx hl
  rw [hS, hRR] at by_
  have By := Aside0.mk by_
  have HmS := Aside0.mk hmS
  have hS0 := hS
  have hRR0 := hRR
  clear by_ hS hRR hb hmS
  have hm := hm0 S hS0
  have hmR : R.m = 0 := hRel.m ▸ hm
  have e1 : S.r 1 = R.r 1 := hRel.r1
  have J21 : Aside0 (∀ W, Calls Try.prog 26 #[.agg R.cells, .int .i64 21] W fun e w' => e = .returned (.bool (bitW (S.r 1) 21)) ∧ KpN W w') := ⟨fun W => by rw [e1]; exact is_r R 21 W hR⟩
  have J20 : Aside0 (∀ W, Calls Try.prog 26 #[.agg R.cells, .int .i64 20] W fun e w' => e = .returned (.bool (bitW (S.r 1) 20)) ∧ KpN W w') := ⟨fun W => by rw [e1]; exact is_r R 20 W hR⟩
  obtain ⟨b21, h21⟩ : ∃ b, bitW (S.r 1) 21 = b := ⟨_, rfl⟩
  obtain ⟨b20, h20⟩ : ∃ b, bitW (S.r 1) 20 = b := ⟨_, rfl⟩
  have MW : Aside0 (∀ (g : Nat) W, St FT W g S → Calls Try.prog 25 #[.pointer (some ⟨g, 0, none⟩)] W fun e w' => e = .returned (.bool (!b21)) ∧ KpN W w') := ⟨fun g W h => by
    have := wait_c g S W h hF; rw [hm, h21] at this; exact this.mono fun _ _ q => ⟨q.1, by obtain ⟨k, hk⟩ := q.2; rw [hk]; exact (Kp.refl _ _).drewN _⟩⟩
  have MF : Aside0 (∀ (g : Nat) W, St FT W g S → Calls Try.prog 27 #[.pointer (some ⟨g, 0, none⟩)] W fun e w' => e = .returned (.bool (false)) ∧ KpN W w') := ⟨fun g W h => by
    have := fence_c g S W h hF; rw [hm, h20] at this; exact this.mono fun _ _ q => ⟨q.1, by obtain ⟨k, hk⟩ := q.2; rw [hk]; exact (Kp.refl _ _).drewN _⟩⟩
  have CL : Aside0 (∀ (g : Nat) W, St FT W g S → Calls Try.prog 28 #[.pointer (some ⟨g, 0, none⟩)] W fun e w' => e = .returned (.int .i64 8) ∧ KpN W w') := ⟨fun g W h => by
    have := call_c g S W h; rw [hm] at this; exact this.mono fun _ _ q => ⟨q.1, q.2 ▸ Kp.refl _ _⟩⟩
  have FA : Aside0 (∀ W, Calls Try.prog 29 #[.int .i64 kd, .bool true] W fun e w' => e = .returned (.int .i64 (rfaultW kd 1)) ∧ KpN W w') := ⟨fun W => by
    rw [← fault_eq1]; exact (fault_c kd true W).mono fun _ _ q => ⟨q.1, q.2 ▸ Kp.refl _ _⟩⟩
  have FR : Aside0 (∀ W, Calls Try.prog 30 #[.int .i64 kd, .int .i64 1] W fun e w' => e = .returned (.int .i64 (rfaultW kd 1)) ∧ KpN W w') := ⟨fun W => fault_r1 kd W⟩
  have CR : Aside0 (∀ W, Calls Try.prog 31 #[.int .i64 kd] W fun e w' => e = .returned (.int .i64 (rfaultW kd 2)) ∧ KpN W w') := ⟨fun W => by
    rw [← crooked_eq]; exact (crooked_c kd W).mono fun _ _ q => ⟨q.1, q.2 ▸ Kp.refl _ _⟩⟩
  have F2 : Aside0 (∀ W, Calls Try.prog 30 #[.int .i64 kd, .int .i64 2] W fun e w' => e = .returned (.int .i64 (rfaultW kd 2)) ∧ KpN W w') := ⟨fun W => fault_r2 kd W⟩
  rw [h21] at J21
  rw [h20] at J20
  generalize rfaultW kd 2 = fv2 at CR F2
  generalize rfaultW kd 1 = fv1 at FA FR
  have HmR := Aside0.mk hmR
  clear hm hmR hm0 hS0 hRR0 hRel e1 h21 h20
  go_enter Try.func8, Try.ntmps8
  go_wp2_with (first
    | ((with_reducible refine gate_dst (N := 3) rfl ?_); refine bx_ev rfl rfl (N := 3) rfl (startC m A xs.length c (l : Int)) rfl ?_; intro g hg_g w1 hb_g hk_g; have Hg_g := Aside0.mk hg_g; clear hg_g)
    | (go_at_call 9; refine (awake9_c _).mono ?_; rintro e w2 ⟨rfl, hk2⟩; have hG2 := (Bk.mk hb_g).kp hk2 (fun h => h); have hC2 : Kd.C k68 w2 A xs.length xs := Kd.C_below hC ((hk_g.trans hk2).below (fun _ _ h => h.elim) (Nat.le_refl _)))
    | ((with_reducible refine gate_dst (N := 15) rfl ?_); refine wpList_load_row rfl 25 _ rfl g rfl _ (startC m A xs.length c (l : Int)) (0, 0) _ (hG2.blk) Try.underlying25 rfl infoS ?_)
    | (go_at_call 10; refine ((By.out _ hC2)).mono ?_; rintro e w3 ⟨rfl, hk3⟩)
    | ((with_reducible refine gate_dst (N := 7) rfl ?_); refine al_ev rfl rfl (N := 7) rfl _ (zeroF _) ?_; intro f hg_f w4 hb_f hk_f; have Hg_f := Aside0.mk hg_f; clear hg_f)
    | ((with_reducible refine gate_dst (N := 8) rfl ?_); refine al_ev rfl rfl (N := 8) rfl _ (zeroR _) ?_; intro p hg_p w5 hb_p hk_p; have Hg_p := Aside0.mk hg_p; clear hg_p)
    | (((with_reducible refine gate_store (t := 31) (p := 7) rfl ?_); refine st_ev rfl rfl rfl f (S.cells) _ _ rfl rfl (((Bk.mk hb_f).kp hk_p (fun h => h)).blk) infoF rfl (VS.one _) ?_; intro w6 hs_w6 ks_w6); have hpf : p ≠ f := (by have := Hg_p.out; have := blk_lt hb_f; omega); have hP6 := (Bk.mk hb_p).kp ks_w6 hpf)
    | (((with_reducible refine gate_store (t := 34) (p := 8) rfl ?_); refine st_ev rfl rfl rfl p (R.cells) _ _ rfl rfl (hP6.blk) infoR rfl (VS.one _) ?_; intro w7 hs_w7 ks_w7); have hI : St FT w7 f S := (St.mk hs_w6).kp ks_w7 (fun e : f = p => hpf e.symm); have hP : St RT w7 p R := St.mk hs_w7; have hfw : w.heap.size ≤ f := (by have := Hg_f.out; have := ((hk_g.trans hk2).trans hk3).size; omega); have hpw : w.heap.size ≤ p := (by have := Hg_p.out; have := (((hk_g.trans hk2).trans hk3).trans hk_f).size; omega); have K7 : KpN w w7 := ((((((hk_g.trans hk2).trans hk3).trans hk_f).trans hk_p).then ks_w6 fun i hi (e : i = f) => by omega).then ks_w7 fun i hi (e : i = p) => by omega); clear hb_g hk_g Hg_g hk2 hG2 hC2 hk3 hb_f hk_f Hg_f hb_p hk_p Hg_p hs_w6 ks_w6 hP6 hs_w7 ks_w7))
  have hnew := heap_alloc_new w7 (.cells #[.int .i64 8, .int .i64 9, .int .i64 0, .int .i64 11] 3)
  have hq := hI.lt
  have hp_ := hP.lt
  have hI8 : St FT (w7.alloc (.cells #[.int .i64 8, .int .i64 9, .int .i64 0, .int .i64 11] 3)) f S := hI.alloc _
  have hP8 : St RT (w7.alloc (.cells #[.int .i64 8, .int .i64 9, .int .i64 0, .int .i64 11] 3)) p R := hP.alloc _
  have K8 : KpN w (w7.alloc (.cells #[.int .i64 8, .int .i64 9, .int .i64 0, .int .i64 11] 3)) := K7.alloc _
  have hL8 : Bk (w7.alloc (.cells #[.int .i64 8, .int .i64 9, .int .i64 0, .int .i64 11] 3)) w7.heap.size #[.int .i64 8, .int .i64 9, .int .i64 0, .int .i64 11] 3 := ⟨hnew⟩
  generalize w7.alloc (.cells #[.int .i64 8, .int .i64 9, .int .i64 0, .int .i64 11] 3) = w8 at hI8 hP8 K8 hL8 ⊢
  generalize w7.heap.size = qb at hL8 ⊢
  clear hnew hq hp_ hI hP K7
  have cMW := rg_calls (w := w8) fun W hW => MW.out f W (hI8.kp hW (fun h => h))
  have cMF := rg_calls (w := w8) fun W hW => MF.out f W (hI8.kp hW (fun h => h))
  have cCL := rg_calls (w := w8) fun W hW => CL.out f W (hI8.kp hW (fun h => h))
  have cJ1 := rg_calls (w := w8) fun W _ => J21.out W
  have cJ0 := rg_calls (w := w8) fun W _ => J20.out W
  have cFA := rg_calls (w := w8) fun W _ => FA.out W
  have cFR := rg_calls (w := w8) fun W _ => FR.out W
  have cCR := rg_calls (w := w8) fun W _ => CR.out W
  have cF2 := rg_calls (w := w8) fun W _ => F2.out W
  have kR : ∀ W, Rg w8 W → W.heap[p]? = some (.cells R.cells 34 (0, 0)) := fun W h => (hP8.kp h.kp (fun h => h)).blk
  have KR := Aside0.mk kR
  have c0 := hP8.c0
  rw [HmR.out] at c0
  have k0 := cell_regrown c0
  have k1 := cell_regrown (show w8.cell? ⟨qb, 0, none⟩ = some (.int .i64 8) from hL8.c 0)
  clear kR c0
  refine wp_region_quiet_below (by kernel_rfl) (by kernel_rfl) ?_
  repeat (quiet_step (first | with_reducible exact cMW _ _ | with_reducible exact cMF _ _ | with_reducible exact cCL _ _ | with_reducible exact cJ1 _ _ | with_reducible exact cJ0 _ _ | with_reducible exact cFA _ _ | with_reducible exact cFR _ _ | with_reducible exact cCR _ _ | with_reducible exact cF2 _ _))
  refine wpQuiet_ld (C := Rg w8) (by rfl) rfl p rfl 34 R.cells _ KR.out rfl rfl rfl ?_
  repeat (quiet_step (first | with_reducible exact cMW _ _ | with_reducible exact cMF _ _ | with_reducible exact cCL _ _ | with_reducible exact cJ1 _ _ | with_reducible exact cJ0 _ _ | with_reducible exact cFA _ _ | with_reducible exact cFR _ _ | with_reducible exact cCR _ _ | with_reducible exact cF2 _ _))
  refine wpQuiet_nil ?_
  intro w9 hw9
  replace hw9 : Rg w8 w9 := hw9
  have K9 := K8.trans hw9.kp
  go_wp2
  go_ret
  exact ⟨rfl, K9.below (fun _ _ h => h.elim) (Nat.le_refl _)⟩
set_option maxHeartbeats 8000000 in
set_option maxRecDepth 100000 in
theorem task0q_no (m : Int) (A : Option Addr) (c : Nat) (l : Nat) (xs : List WR) (kd : Int) (w : World) (hC : Kd.C k68 w A xs.length xs) (hb : ¬ bgOk m xs.length) :
    Calls Try.prog 8 #[.agg (startC m A xs.length c (l : Int)), .int .i64 kd, .bool false] w fun e w' => e = .returned (.bool true) ∧ Below w.heap.size w w' := by
  have Hb := Aside0.mk hb
  clear hb
  go_enter Try.func8, Try.ntmps8
  go_wp2_with (first
    | ((with_reducible refine gate_dst (N := 3) rfl ?_); refine bx_ev rfl rfl (N := 3) rfl (startC m A xs.length c (l : Int)) rfl ?_; intro g hg_g w1 hb_g hk_g; have Hg_g := Aside0.mk hg_g; clear hg_g)
    | (go_at_call 9; refine (awake9_c _).mono ?_; rintro e w2 ⟨rfl, hk2⟩; have hG2 := (Bk.mk hb_g).kp hk2 (fun h => h); have hC2 : Kd.C k68 w2 A xs.length xs := Kd.C_below hC ((hk_g.trans hk2).below (fun _ _ h => h.elim) (Nat.le_refl _)))
    | ((with_reducible refine gate_dst (N := 15) rfl ?_); refine wpList_load_row rfl 25 _ rfl g rfl _ (startC m A xs.length c (l : Int)) (0, 0) _ (hG2.blk) Try.underlying25 rfl infoS ?_)
    | (go_at_call 10; refine ((begun_no m A c l xs _ Hb.out)).mono ?_; rintro e w3 ⟨rfl, hk3⟩)
    | ((with_reducible refine gate_dst (N := 7) rfl ?_); refine al_ev rfl rfl (N := 7) rfl _ (zeroF _) ?_; intro f hg_f w4 hb_f hk_f; have Hg_f := Aside0.mk hg_f; clear hg_f)
    | ((with_reducible refine gate_dst (N := 8) rfl ?_); refine al_ev rfl rfl (N := 8) rfl _ (zeroR _) ?_; intro p hg_p w5 hb_p hk_p; have Hg_p := Aside0.mk hg_p; clear hg_p)
    | (((with_reducible refine gate_store (t := 31) (p := 7) rfl ?_); refine st_ev rfl rfl rfl f (vs0.cells) _ _ rfl rfl (((Bk.mk hb_f).kp hk_p (fun h => h)).blk) infoF rfl (VS.one _) ?_; intro w6 hs_w6 ks_w6); have hpf : p ≠ f := (by have := Hg_p.out; have := blk_lt hb_f; omega); have hP6 := (Bk.mk hb_p).kp ks_w6 hpf)
    | (((with_reducible refine gate_store (t := 34) (p := 8) rfl ?_); refine st_ev rfl rfl rfl p (vs0.cells) _ _ rfl rfl (hP6.blk) infoR rfl (VS.one _) ?_; intro w7 hs_w7 ks_w7); have hI : St FT w7 f vs0 := (St.mk hs_w6).kp ks_w7 (fun e : f = p => hpf e.symm); have hP : St RT w7 p vs0 := St.mk hs_w7; have hfw : w.heap.size ≤ f := (by have := Hg_f.out; have := ((hk_g.trans hk2).trans hk3).size; omega); have hpw : w.heap.size ≤ p := (by have := Hg_p.out; have := (((hk_g.trans hk2).trans hk3).trans hk_f).size; omega); have K7 : KpN w w7 := ((((((hk_g.trans hk2).trans hk3).trans hk_f).trans hk_p).then ks_w6 fun i hi (e : i = f) => by omega).then ks_w7 fun i hi (e : i = p) => by omega); clear hb_g hk_g Hg_g hk2 hG2 hC2 hk3 hb_f hk_f Hg_f hb_p hk_p Hg_p hs_w6 ks_w6 hP6 hs_w7 ks_w7))
  go_ret
  exact ⟨rfl, K7.below (fun _ _ h => h.elim) (Nat.le_refl _)⟩
set_option maxHeartbeats 8000000 in
set_option maxRecDepth 100000 in
theorem task0q_yes (m : Int) (A : Option Addr) (c : Nat) (l : Nat) (xs : List WR) (kd : Int) (w : World) (hC : Kd.C k68 w A xs.length xs) (hx : wrOk xs) (hl : U l) (hb : bgOk m xs.length) (hm0 : ∀ S : VS, bgF m xs l = S → S.m = 0) :
    Calls Try.prog 8 #[.agg (startC m A xs.length c (l : Int)), .int .i64 kd, .bool false] w fun e w' => e = .returned (.bool true) ∧ Below w.heap.size w w' := by
  have Hb := Aside0.mk hb
  have hRel := Rel.bg hx m l
  have hF : (bgF m xs l).ok := bgF_ok hx hl m
  have hR : (bgR m xs l).ok := bgR_ok hx hl m
  obtain ⟨S, hS⟩ : ∃ S, bgF m xs l = S := ⟨_, rfl⟩
  obtain ⟨R, hRR⟩ : ∃ R, bgR m xs l = R := ⟨_, rfl⟩
  have hmS : S.m = m := by rw [← hS]; rfl
  rw [hS] at hF hRel
  rw [hRR] at hR hRel
  have by_ := fun w hC => begun_yes m A c l xs w Hb.out hC hx hl
  rw [hS, hRR] at by_
  have By := Aside0.mk by_
  have HmS := Aside0.mk hmS
  have hS0 := hS
  have hRR0 := hRR
  clear by_ hS hRR hb hmS
  have hm := hm0 S hS0
  have hmR : R.m = 0 := hRel.m ▸ hm
  have e1 : S.r 1 = R.r 1 := hRel.r1
  have J21 : Aside0 (∀ W, Calls Try.prog 26 #[.agg R.cells, .int .i64 21] W fun e w' => e = .returned (.bool (bitW (S.r 1) 21)) ∧ KpN W w') := ⟨fun W => by rw [e1]; exact is_r R 21 W hR⟩
  have J20 : Aside0 (∀ W, Calls Try.prog 26 #[.agg R.cells, .int .i64 20] W fun e w' => e = .returned (.bool (bitW (S.r 1) 20)) ∧ KpN W w') := ⟨fun W => by rw [e1]; exact is_r R 20 W hR⟩
  obtain ⟨b21, h21⟩ : ∃ b, bitW (S.r 1) 21 = b := ⟨_, rfl⟩
  obtain ⟨b20, h20⟩ : ∃ b, bitW (S.r 1) 20 = b := ⟨_, rfl⟩
  have MW : Aside0 (∀ (g : Nat) W, St FT W g S → Calls Try.prog 25 #[.pointer (some ⟨g, 0, none⟩)] W fun e w' => e = .returned (.bool (!b21)) ∧ KpN W w') := ⟨fun g W h => by
    have := wait_c g S W h hF; rw [hm, h21] at this; exact this.mono fun _ _ q => ⟨q.1, by obtain ⟨k, hk⟩ := q.2; rw [hk]; exact (Kp.refl _ _).drewN _⟩⟩
  have MF : Aside0 (∀ (g : Nat) W, St FT W g S → Calls Try.prog 27 #[.pointer (some ⟨g, 0, none⟩)] W fun e w' => e = .returned (.bool (false)) ∧ KpN W w') := ⟨fun g W h => by
    have := fence_c g S W h hF; rw [hm, h20] at this; exact this.mono fun _ _ q => ⟨q.1, by obtain ⟨k, hk⟩ := q.2; rw [hk]; exact (Kp.refl _ _).drewN _⟩⟩
  have CL : Aside0 (∀ (g : Nat) W, St FT W g S → Calls Try.prog 28 #[.pointer (some ⟨g, 0, none⟩)] W fun e w' => e = .returned (.int .i64 8) ∧ KpN W w') := ⟨fun g W h => by
    have := call_c g S W h; rw [hm] at this; exact this.mono fun _ _ q => ⟨q.1, q.2 ▸ Kp.refl _ _⟩⟩
  have FA : Aside0 (∀ W, Calls Try.prog 29 #[.int .i64 kd, .bool false] W fun e w' => e = .returned (.int .i64 (rfaultW kd 0)) ∧ KpN W w') := ⟨fun W => by
    rw [← fault_eq0]; exact (fault_c kd false W).mono fun _ _ q => ⟨q.1, q.2 ▸ Kp.refl _ _⟩⟩
  have FR : Aside0 (∀ W, Calls Try.prog 30 #[.int .i64 kd, .int .i64 0] W fun e w' => e = .returned (.int .i64 (rfaultW kd 0)) ∧ KpN W w') := ⟨fun W => fault_r0 kd W⟩
  have CR : Aside0 (∀ W, Calls Try.prog 31 #[.int .i64 kd] W fun e w' => e = .returned (.int .i64 (rfaultW kd 2)) ∧ KpN W w') := ⟨fun W => by
    rw [← crooked_eq]; exact (crooked_c kd W).mono fun _ _ q => ⟨q.1, q.2 ▸ Kp.refl _ _⟩⟩
  have F2 : Aside0 (∀ W, Calls Try.prog 30 #[.int .i64 kd, .int .i64 2] W fun e w' => e = .returned (.int .i64 (rfaultW kd 2)) ∧ KpN W w') := ⟨fun W => fault_r2 kd W⟩
  rw [h21] at J21
  rw [h20] at J20
  generalize rfaultW kd 2 = fv2 at CR F2
  generalize rfaultW kd 0 = fv1 at FA FR
  have HmR := Aside0.mk hmR
  clear hm hmR hm0 hS0 hRR0 hRel e1 h21 h20
  go_enter Try.func8, Try.ntmps8
  go_wp2_with (first
    | ((with_reducible refine gate_dst (N := 3) rfl ?_); refine bx_ev rfl rfl (N := 3) rfl (startC m A xs.length c (l : Int)) rfl ?_; intro g hg_g w1 hb_g hk_g; have Hg_g := Aside0.mk hg_g; clear hg_g)
    | (go_at_call 9; refine (awake9_c _).mono ?_; rintro e w2 ⟨rfl, hk2⟩; have hG2 := (Bk.mk hb_g).kp hk2 (fun h => h); have hC2 : Kd.C k68 w2 A xs.length xs := Kd.C_below hC ((hk_g.trans hk2).below (fun _ _ h => h.elim) (Nat.le_refl _)))
    | ((with_reducible refine gate_dst (N := 15) rfl ?_); refine wpList_load_row rfl 25 _ rfl g rfl _ (startC m A xs.length c (l : Int)) (0, 0) _ (hG2.blk) Try.underlying25 rfl infoS ?_)
    | (go_at_call 10; refine ((By.out _ hC2)).mono ?_; rintro e w3 ⟨rfl, hk3⟩)
    | ((with_reducible refine gate_dst (N := 7) rfl ?_); refine al_ev rfl rfl (N := 7) rfl _ (zeroF _) ?_; intro f hg_f w4 hb_f hk_f; have Hg_f := Aside0.mk hg_f; clear hg_f)
    | ((with_reducible refine gate_dst (N := 8) rfl ?_); refine al_ev rfl rfl (N := 8) rfl _ (zeroR _) ?_; intro p hg_p w5 hb_p hk_p; have Hg_p := Aside0.mk hg_p; clear hg_p)
    | (((with_reducible refine gate_store (t := 31) (p := 7) rfl ?_); refine st_ev rfl rfl rfl f (S.cells) _ _ rfl rfl (((Bk.mk hb_f).kp hk_p (fun h => h)).blk) infoF rfl (VS.one _) ?_; intro w6 hs_w6 ks_w6); have hpf : p ≠ f := (by have := Hg_p.out; have := blk_lt hb_f; omega); have hP6 := (Bk.mk hb_p).kp ks_w6 hpf)
    | (((with_reducible refine gate_store (t := 34) (p := 8) rfl ?_); refine st_ev rfl rfl rfl p (R.cells) _ _ rfl rfl (hP6.blk) infoR rfl (VS.one _) ?_; intro w7 hs_w7 ks_w7); have hI : St FT w7 f S := (St.mk hs_w6).kp ks_w7 (fun e : f = p => hpf e.symm); have hP : St RT w7 p R := St.mk hs_w7; have hfw : w.heap.size ≤ f := (by have := Hg_f.out; have := ((hk_g.trans hk2).trans hk3).size; omega); have hpw : w.heap.size ≤ p := (by have := Hg_p.out; have := (((hk_g.trans hk2).trans hk3).trans hk_f).size; omega); have K7 : KpN w w7 := ((((((hk_g.trans hk2).trans hk3).trans hk_f).trans hk_p).then ks_w6 fun i hi (e : i = f) => by omega).then ks_w7 fun i hi (e : i = p) => by omega); clear hb_g hk_g Hg_g hk2 hG2 hC2 hk3 hb_f hk_f Hg_f hb_p hk_p Hg_p hs_w6 ks_w6 hP6 hs_w7 ks_w7))
  have hnew := heap_alloc_new w7 (.cells #[.int .i64 8, .int .i64 9, .int .i64 0, .int .i64 11] 3)
  have hq := hI.lt
  have hp_ := hP.lt
  have hI8 : St FT (w7.alloc (.cells #[.int .i64 8, .int .i64 9, .int .i64 0, .int .i64 11] 3)) f S := hI.alloc _
  have hP8 : St RT (w7.alloc (.cells #[.int .i64 8, .int .i64 9, .int .i64 0, .int .i64 11] 3)) p R := hP.alloc _
  have K8 : KpN w (w7.alloc (.cells #[.int .i64 8, .int .i64 9, .int .i64 0, .int .i64 11] 3)) := K7.alloc _
  have hL8 : Bk (w7.alloc (.cells #[.int .i64 8, .int .i64 9, .int .i64 0, .int .i64 11] 3)) w7.heap.size #[.int .i64 8, .int .i64 9, .int .i64 0, .int .i64 11] 3 := ⟨hnew⟩
  generalize w7.alloc (.cells #[.int .i64 8, .int .i64 9, .int .i64 0, .int .i64 11] 3) = w8 at hI8 hP8 K8 hL8 ⊢
  generalize w7.heap.size = qb at hL8 ⊢
  clear hnew hq hp_ hI hP K7
  have cMW := rg_calls (w := w8) fun W hW => MW.out f W (hI8.kp hW (fun h => h))
  have cMF := rg_calls (w := w8) fun W hW => MF.out f W (hI8.kp hW (fun h => h))
  have cCL := rg_calls (w := w8) fun W hW => CL.out f W (hI8.kp hW (fun h => h))
  have cJ1 := rg_calls (w := w8) fun W _ => J21.out W
  have cJ0 := rg_calls (w := w8) fun W _ => J20.out W
  have cFA := rg_calls (w := w8) fun W _ => FA.out W
  have cFR := rg_calls (w := w8) fun W _ => FR.out W
  have cCR := rg_calls (w := w8) fun W _ => CR.out W
  have cF2 := rg_calls (w := w8) fun W _ => F2.out W
  have kR : ∀ W, Rg w8 W → W.heap[p]? = some (.cells R.cells 34 (0, 0)) := fun W h => (hP8.kp h.kp (fun h => h)).blk
  have KR := Aside0.mk kR
  have c0 := hP8.c0
  rw [HmR.out] at c0
  have k0 := cell_regrown c0
  have k1 := cell_regrown (show w8.cell? ⟨qb, 0, none⟩ = some (.int .i64 8) from hL8.c 0)
  clear kR c0
  refine wp_region_quiet_below (by kernel_rfl) (by kernel_rfl) ?_
  repeat (quiet_step (first | with_reducible exact cMW _ _ | with_reducible exact cMF _ _ | with_reducible exact cCL _ _ | with_reducible exact cJ1 _ _ | with_reducible exact cJ0 _ _ | with_reducible exact cFA _ _ | with_reducible exact cFR _ _ | with_reducible exact cCR _ _ | with_reducible exact cF2 _ _))
  refine wpQuiet_ld (C := Rg w8) (by rfl) rfl p rfl 34 R.cells _ KR.out rfl rfl rfl ?_
  repeat (quiet_step (first | with_reducible exact cMW _ _ | with_reducible exact cMF _ _ | with_reducible exact cCL _ _ | with_reducible exact cJ1 _ _ | with_reducible exact cJ0 _ _ | with_reducible exact cFA _ _ | with_reducible exact cFR _ _ | with_reducible exact cCR _ _ | with_reducible exact cF2 _ _))
  refine wpQuiet_nil ?_
  intro w9 hw9
  replace hw9 : Rg w8 w9 := hw9
  have K9 := K8.trans hw9.kp
  go_wp2
  go_ret
  exact ⟨rfl, K9.below (fun _ _ h => h.elim) (Nat.le_refl _)⟩
set_option maxHeartbeats 8000000 in
set_option maxRecDepth 100000 in
theorem task1p_yes (m : Int) (A : Option Addr) (c : Nat) (l : Nat) (xs : List WR) (kd : Int) (w : World) (hC : Kd.C k68 w A xs.length xs) (hx : wrOk xs) (hl : U l) (hb : bgOk m xs.length) (hm0 : ∀ S : VS, bgF m xs l = S → S.m = 1) :
    Calls Try.prog 8 #[.agg (startC m A xs.length c (l : Int)), .int .i64 kd, .bool true] w fun e w' => e = .returned (.bool true) ∧ Below w.heap.size w w' := by
  have Hb := Aside0.mk hb
  have hRel := Rel.bg hx m l
  have hF : (bgF m xs l).ok := bgF_ok hx hl m
  have hR : (bgR m xs l).ok := bgR_ok hx hl m
  obtain ⟨S, hS⟩ : ∃ S, bgF m xs l = S := ⟨_, rfl⟩
  obtain ⟨R, hRR⟩ : ∃ R, bgR m xs l = R := ⟨_, rfl⟩
  have hmS : S.m = m := by rw [← hS]; rfl
  rw [hS] at hF hRel
  rw [hRR] at hR hRel
  have by_ := fun w hC => begun_yes m A c l xs w Hb.out hC hx hl
  rw [hS, hRR] at by_
  have By := Aside0.mk by_
  have HmS := Aside0.mk hmS
  have hS0 := hS
  have hRR0 := hRR
  clear by_ hS hRR hb hmS
  have hm := hm0 S hS0
  have hmR : R.m = 1 := hRel.m ▸ hm
  have e1 : S.r 1 = R.r 1 := hRel.r1
  have J21 : Aside0 (∀ W, Calls Try.prog 26 #[.agg R.cells, .int .i64 21] W fun e w' => e = .returned (.bool (bitW (S.r 1) 21)) ∧ KpN W w') := ⟨fun W => by rw [e1]; exact is_r R 21 W hR⟩
  have J20 : Aside0 (∀ W, Calls Try.prog 26 #[.agg R.cells, .int .i64 20] W fun e w' => e = .returned (.bool (bitW (S.r 1) 20)) ∧ KpN W w') := ⟨fun W => by rw [e1]; exact is_r R 20 W hR⟩
  obtain ⟨b21, h21⟩ : ∃ b, bitW (S.r 1) 21 = b := ⟨_, rfl⟩
  obtain ⟨b20, h20⟩ : ∃ b, bitW (S.r 1) 20 = b := ⟨_, rfl⟩
  have MW : Aside0 (∀ (g : Nat) W, St FT W g S → Calls Try.prog 25 #[.pointer (some ⟨g, 0, none⟩)] W fun e w' => e = .returned (.bool (!b21)) ∧ KpN W w') := ⟨fun g W h => by
    have := wait_c g S W h hF; rw [hm, h21] at this; exact this.mono fun _ _ q => ⟨q.1, by obtain ⟨k, hk⟩ := q.2; rw [hk]; exact (Kp.refl _ _).drewN _⟩⟩
  have MF : Aside0 (∀ (g : Nat) W, St FT W g S → Calls Try.prog 27 #[.pointer (some ⟨g, 0, none⟩)] W fun e w' => e = .returned (.bool (!b20)) ∧ KpN W w') := ⟨fun g W h => by
    have := fence_c g S W h hF; rw [hm, h20] at this; exact this.mono fun _ _ q => ⟨q.1, by obtain ⟨k, hk⟩ := q.2; rw [hk]; exact (Kp.refl _ _).drewN _⟩⟩
  have CL : Aside0 (∀ (g : Nat) W, St FT W g S → Calls Try.prog 28 #[.pointer (some ⟨g, 0, none⟩)] W fun e w' => e = .returned (.int .i64 9) ∧ KpN W w') := ⟨fun g W h => by
    have := call_c g S W h; rw [hm] at this; exact this.mono fun _ _ q => ⟨q.1, q.2 ▸ Kp.refl _ _⟩⟩
  have FA : Aside0 (∀ W, Calls Try.prog 29 #[.int .i64 kd, .bool true] W fun e w' => e = .returned (.int .i64 (rfaultW kd 1)) ∧ KpN W w') := ⟨fun W => by
    rw [← fault_eq1]; exact (fault_c kd true W).mono fun _ _ q => ⟨q.1, q.2 ▸ Kp.refl _ _⟩⟩
  have FR : Aside0 (∀ W, Calls Try.prog 30 #[.int .i64 kd, .int .i64 1] W fun e w' => e = .returned (.int .i64 (rfaultW kd 1)) ∧ KpN W w') := ⟨fun W => fault_r1 kd W⟩
  have CR : Aside0 (∀ W, Calls Try.prog 31 #[.int .i64 kd] W fun e w' => e = .returned (.int .i64 (rfaultW kd 2)) ∧ KpN W w') := ⟨fun W => by
    rw [← crooked_eq]; exact (crooked_c kd W).mono fun _ _ q => ⟨q.1, q.2 ▸ Kp.refl _ _⟩⟩
  have F2 : Aside0 (∀ W, Calls Try.prog 30 #[.int .i64 kd, .int .i64 2] W fun e w' => e = .returned (.int .i64 (rfaultW kd 2)) ∧ KpN W w') := ⟨fun W => fault_r2 kd W⟩
  rw [h21] at J21
  rw [h20] at J20
  generalize rfaultW kd 2 = fv2 at CR F2
  generalize rfaultW kd 1 = fv1 at FA FR
  have HmR := Aside0.mk hmR
  clear hm hmR hm0 hS0 hRR0 hRel e1 h21 h20
  go_enter Try.func8, Try.ntmps8
  go_wp2_with (first
    | ((with_reducible refine gate_dst (N := 3) rfl ?_); refine bx_ev rfl rfl (N := 3) rfl (startC m A xs.length c (l : Int)) rfl ?_; intro g hg_g w1 hb_g hk_g; have Hg_g := Aside0.mk hg_g; clear hg_g)
    | (go_at_call 9; refine (awake9_c _).mono ?_; rintro e w2 ⟨rfl, hk2⟩; have hG2 := (Bk.mk hb_g).kp hk2 (fun h => h); have hC2 : Kd.C k68 w2 A xs.length xs := Kd.C_below hC ((hk_g.trans hk2).below (fun _ _ h => h.elim) (Nat.le_refl _)))
    | ((with_reducible refine gate_dst (N := 15) rfl ?_); refine wpList_load_row rfl 25 _ rfl g rfl _ (startC m A xs.length c (l : Int)) (0, 0) _ (hG2.blk) Try.underlying25 rfl infoS ?_)
    | (go_at_call 10; refine ((By.out _ hC2)).mono ?_; rintro e w3 ⟨rfl, hk3⟩)
    | ((with_reducible refine gate_dst (N := 7) rfl ?_); refine al_ev rfl rfl (N := 7) rfl _ (zeroF _) ?_; intro f hg_f w4 hb_f hk_f; have Hg_f := Aside0.mk hg_f; clear hg_f)
    | ((with_reducible refine gate_dst (N := 8) rfl ?_); refine al_ev rfl rfl (N := 8) rfl _ (zeroR _) ?_; intro p hg_p w5 hb_p hk_p; have Hg_p := Aside0.mk hg_p; clear hg_p)
    | (((with_reducible refine gate_store (t := 31) (p := 7) rfl ?_); refine st_ev rfl rfl rfl f (S.cells) _ _ rfl rfl (((Bk.mk hb_f).kp hk_p (fun h => h)).blk) infoF rfl (VS.one _) ?_; intro w6 hs_w6 ks_w6); have hpf : p ≠ f := (by have := Hg_p.out; have := blk_lt hb_f; omega); have hP6 := (Bk.mk hb_p).kp ks_w6 hpf)
    | (((with_reducible refine gate_store (t := 34) (p := 8) rfl ?_); refine st_ev rfl rfl rfl p (R.cells) _ _ rfl rfl (hP6.blk) infoR rfl (VS.one _) ?_; intro w7 hs_w7 ks_w7); have hI : St FT w7 f S := (St.mk hs_w6).kp ks_w7 (fun e : f = p => hpf e.symm); have hP : St RT w7 p R := St.mk hs_w7; have hfw : w.heap.size ≤ f := (by have := Hg_f.out; have := ((hk_g.trans hk2).trans hk3).size; omega); have hpw : w.heap.size ≤ p := (by have := Hg_p.out; have := (((hk_g.trans hk2).trans hk3).trans hk_f).size; omega); have K7 : KpN w w7 := ((((((hk_g.trans hk2).trans hk3).trans hk_f).trans hk_p).then ks_w6 fun i hi (e : i = f) => by omega).then ks_w7 fun i hi (e : i = p) => by omega); clear hb_g hk_g Hg_g hk2 hG2 hC2 hk3 hb_f hk_f Hg_f hb_p hk_p Hg_p hs_w6 ks_w6 hP6 hs_w7 ks_w7))
  have hnew := heap_alloc_new w7 (.cells #[.int .i64 8, .int .i64 9, .int .i64 0, .int .i64 11] 3)
  have hq := hI.lt
  have hp_ := hP.lt
  have hI8 : St FT (w7.alloc (.cells #[.int .i64 8, .int .i64 9, .int .i64 0, .int .i64 11] 3)) f S := hI.alloc _
  have hP8 : St RT (w7.alloc (.cells #[.int .i64 8, .int .i64 9, .int .i64 0, .int .i64 11] 3)) p R := hP.alloc _
  have K8 : KpN w (w7.alloc (.cells #[.int .i64 8, .int .i64 9, .int .i64 0, .int .i64 11] 3)) := K7.alloc _
  have hL8 : Bk (w7.alloc (.cells #[.int .i64 8, .int .i64 9, .int .i64 0, .int .i64 11] 3)) w7.heap.size #[.int .i64 8, .int .i64 9, .int .i64 0, .int .i64 11] 3 := ⟨hnew⟩
  generalize w7.alloc (.cells #[.int .i64 8, .int .i64 9, .int .i64 0, .int .i64 11] 3) = w8 at hI8 hP8 K8 hL8 ⊢
  generalize w7.heap.size = qb at hL8 ⊢
  clear hnew hq hp_ hI hP K7
  have cMW := rg_calls (w := w8) fun W hW => MW.out f W (hI8.kp hW (fun h => h))
  have cMF := rg_calls (w := w8) fun W hW => MF.out f W (hI8.kp hW (fun h => h))
  have cCL := rg_calls (w := w8) fun W hW => CL.out f W (hI8.kp hW (fun h => h))
  have cJ1 := rg_calls (w := w8) fun W _ => J21.out W
  have cJ0 := rg_calls (w := w8) fun W _ => J20.out W
  have cFA := rg_calls (w := w8) fun W _ => FA.out W
  have cFR := rg_calls (w := w8) fun W _ => FR.out W
  have cCR := rg_calls (w := w8) fun W _ => CR.out W
  have cF2 := rg_calls (w := w8) fun W _ => F2.out W
  have kR : ∀ W, Rg w8 W → W.heap[p]? = some (.cells R.cells 34 (0, 0)) := fun W h => (hP8.kp h.kp (fun h => h)).blk
  have KR := Aside0.mk kR
  have c0 := hP8.c0
  rw [HmR.out] at c0
  have k0 := cell_regrown c0
  have k1 := cell_regrown (show w8.cell? ⟨qb, 1, none⟩ = some (.int .i64 9) from hL8.c 1)
  clear kR c0
  refine wp_region_quiet_below (by kernel_rfl) (by kernel_rfl) ?_
  repeat (quiet_step (first | with_reducible exact cMW _ _ | with_reducible exact cMF _ _ | with_reducible exact cCL _ _ | with_reducible exact cJ1 _ _ | with_reducible exact cJ0 _ _ | with_reducible exact cFA _ _ | with_reducible exact cFR _ _ | with_reducible exact cCR _ _ | with_reducible exact cF2 _ _))
  refine wpQuiet_ld (C := Rg w8) (by rfl) rfl p rfl 34 R.cells _ KR.out rfl rfl rfl ?_
  repeat (quiet_step (first | with_reducible exact cMW _ _ | with_reducible exact cMF _ _ | with_reducible exact cCL _ _ | with_reducible exact cJ1 _ _ | with_reducible exact cJ0 _ _ | with_reducible exact cFA _ _ | with_reducible exact cFR _ _ | with_reducible exact cCR _ _ | with_reducible exact cF2 _ _))
  refine wpQuiet_ld (C := Rg w8) (by rfl) rfl p rfl 34 R.cells _ KR.out rfl rfl rfl ?_
  repeat (quiet_step (first | with_reducible exact cMW _ _ | with_reducible exact cMF _ _ | with_reducible exact cCL _ _ | with_reducible exact cJ1 _ _ | with_reducible exact cJ0 _ _ | with_reducible exact cFA _ _ | with_reducible exact cFR _ _ | with_reducible exact cCR _ _ | with_reducible exact cF2 _ _))
  refine wpQuiet_nil ?_
  intro w9 hw9
  replace hw9 : Rg w8 w9 := hw9
  have K9 := K8.trans hw9.kp
  go_wp2
  go_ret
  exact ⟨rfl, K9.below (fun _ _ h => h.elim) (Nat.le_refl _)⟩
set_option maxHeartbeats 8000000 in
set_option maxRecDepth 100000 in
theorem task1q_yes (m : Int) (A : Option Addr) (c : Nat) (l : Nat) (xs : List WR) (kd : Int) (w : World) (hC : Kd.C k68 w A xs.length xs) (hx : wrOk xs) (hl : U l) (hb : bgOk m xs.length) (hm0 : ∀ S : VS, bgF m xs l = S → S.m = 1) :
    Calls Try.prog 8 #[.agg (startC m A xs.length c (l : Int)), .int .i64 kd, .bool false] w fun e w' => e = .returned (.bool true) ∧ Below w.heap.size w w' := by
  have Hb := Aside0.mk hb
  have hRel := Rel.bg hx m l
  have hF : (bgF m xs l).ok := bgF_ok hx hl m
  have hR : (bgR m xs l).ok := bgR_ok hx hl m
  obtain ⟨S, hS⟩ : ∃ S, bgF m xs l = S := ⟨_, rfl⟩
  obtain ⟨R, hRR⟩ : ∃ R, bgR m xs l = R := ⟨_, rfl⟩
  have hmS : S.m = m := by rw [← hS]; rfl
  rw [hS] at hF hRel
  rw [hRR] at hR hRel
  have by_ := fun w hC => begun_yes m A c l xs w Hb.out hC hx hl
  rw [hS, hRR] at by_
  have By := Aside0.mk by_
  have HmS := Aside0.mk hmS
  have hS0 := hS
  have hRR0 := hRR
  clear by_ hS hRR hb hmS
  have hm := hm0 S hS0
  have hmR : R.m = 1 := hRel.m ▸ hm
  have e1 : S.r 1 = R.r 1 := hRel.r1
  have J21 : Aside0 (∀ W, Calls Try.prog 26 #[.agg R.cells, .int .i64 21] W fun e w' => e = .returned (.bool (bitW (S.r 1) 21)) ∧ KpN W w') := ⟨fun W => by rw [e1]; exact is_r R 21 W hR⟩
  have J20 : Aside0 (∀ W, Calls Try.prog 26 #[.agg R.cells, .int .i64 20] W fun e w' => e = .returned (.bool (bitW (S.r 1) 20)) ∧ KpN W w') := ⟨fun W => by rw [e1]; exact is_r R 20 W hR⟩
  obtain ⟨b21, h21⟩ : ∃ b, bitW (S.r 1) 21 = b := ⟨_, rfl⟩
  obtain ⟨b20, h20⟩ : ∃ b, bitW (S.r 1) 20 = b := ⟨_, rfl⟩
  have MW : Aside0 (∀ (g : Nat) W, St FT W g S → Calls Try.prog 25 #[.pointer (some ⟨g, 0, none⟩)] W fun e w' => e = .returned (.bool (!b21)) ∧ KpN W w') := ⟨fun g W h => by
    have := wait_c g S W h hF; rw [hm, h21] at this; exact this.mono fun _ _ q => ⟨q.1, by obtain ⟨k, hk⟩ := q.2; rw [hk]; exact (Kp.refl _ _).drewN _⟩⟩
  have MF : Aside0 (∀ (g : Nat) W, St FT W g S → Calls Try.prog 27 #[.pointer (some ⟨g, 0, none⟩)] W fun e w' => e = .returned (.bool (!b20)) ∧ KpN W w') := ⟨fun g W h => by
    have := fence_c g S W h hF; rw [hm, h20] at this; exact this.mono fun _ _ q => ⟨q.1, by obtain ⟨k, hk⟩ := q.2; rw [hk]; exact (Kp.refl _ _).drewN _⟩⟩
  have CL : Aside0 (∀ (g : Nat) W, St FT W g S → Calls Try.prog 28 #[.pointer (some ⟨g, 0, none⟩)] W fun e w' => e = .returned (.int .i64 9) ∧ KpN W w') := ⟨fun g W h => by
    have := call_c g S W h; rw [hm] at this; exact this.mono fun _ _ q => ⟨q.1, q.2 ▸ Kp.refl _ _⟩⟩
  have FA : Aside0 (∀ W, Calls Try.prog 29 #[.int .i64 kd, .bool false] W fun e w' => e = .returned (.int .i64 (rfaultW kd 0)) ∧ KpN W w') := ⟨fun W => by
    rw [← fault_eq0]; exact (fault_c kd false W).mono fun _ _ q => ⟨q.1, q.2 ▸ Kp.refl _ _⟩⟩
  have FR : Aside0 (∀ W, Calls Try.prog 30 #[.int .i64 kd, .int .i64 0] W fun e w' => e = .returned (.int .i64 (rfaultW kd 0)) ∧ KpN W w') := ⟨fun W => fault_r0 kd W⟩
  have CR : Aside0 (∀ W, Calls Try.prog 31 #[.int .i64 kd] W fun e w' => e = .returned (.int .i64 (rfaultW kd 2)) ∧ KpN W w') := ⟨fun W => by
    rw [← crooked_eq]; exact (crooked_c kd W).mono fun _ _ q => ⟨q.1, q.2 ▸ Kp.refl _ _⟩⟩
  have F2 : Aside0 (∀ W, Calls Try.prog 30 #[.int .i64 kd, .int .i64 2] W fun e w' => e = .returned (.int .i64 (rfaultW kd 2)) ∧ KpN W w') := ⟨fun W => fault_r2 kd W⟩
  rw [h21] at J21
  rw [h20] at J20
  generalize rfaultW kd 2 = fv2 at CR F2
  generalize rfaultW kd 0 = fv1 at FA FR
  have HmR := Aside0.mk hmR
  clear hm hmR hm0 hS0 hRR0 hRel e1 h21 h20
  go_enter Try.func8, Try.ntmps8
  go_wp2_with (first
    | ((with_reducible refine gate_dst (N := 3) rfl ?_); refine bx_ev rfl rfl (N := 3) rfl (startC m A xs.length c (l : Int)) rfl ?_; intro g hg_g w1 hb_g hk_g; have Hg_g := Aside0.mk hg_g; clear hg_g)
    | (go_at_call 9; refine (awake9_c _).mono ?_; rintro e w2 ⟨rfl, hk2⟩; have hG2 := (Bk.mk hb_g).kp hk2 (fun h => h); have hC2 : Kd.C k68 w2 A xs.length xs := Kd.C_below hC ((hk_g.trans hk2).below (fun _ _ h => h.elim) (Nat.le_refl _)))
    | ((with_reducible refine gate_dst (N := 15) rfl ?_); refine wpList_load_row rfl 25 _ rfl g rfl _ (startC m A xs.length c (l : Int)) (0, 0) _ (hG2.blk) Try.underlying25 rfl infoS ?_)
    | (go_at_call 10; refine ((By.out _ hC2)).mono ?_; rintro e w3 ⟨rfl, hk3⟩)
    | ((with_reducible refine gate_dst (N := 7) rfl ?_); refine al_ev rfl rfl (N := 7) rfl _ (zeroF _) ?_; intro f hg_f w4 hb_f hk_f; have Hg_f := Aside0.mk hg_f; clear hg_f)
    | ((with_reducible refine gate_dst (N := 8) rfl ?_); refine al_ev rfl rfl (N := 8) rfl _ (zeroR _) ?_; intro p hg_p w5 hb_p hk_p; have Hg_p := Aside0.mk hg_p; clear hg_p)
    | (((with_reducible refine gate_store (t := 31) (p := 7) rfl ?_); refine st_ev rfl rfl rfl f (S.cells) _ _ rfl rfl (((Bk.mk hb_f).kp hk_p (fun h => h)).blk) infoF rfl (VS.one _) ?_; intro w6 hs_w6 ks_w6); have hpf : p ≠ f := (by have := Hg_p.out; have := blk_lt hb_f; omega); have hP6 := (Bk.mk hb_p).kp ks_w6 hpf)
    | (((with_reducible refine gate_store (t := 34) (p := 8) rfl ?_); refine st_ev rfl rfl rfl p (R.cells) _ _ rfl rfl (hP6.blk) infoR rfl (VS.one _) ?_; intro w7 hs_w7 ks_w7); have hI : St FT w7 f S := (St.mk hs_w6).kp ks_w7 (fun e : f = p => hpf e.symm); have hP : St RT w7 p R := St.mk hs_w7; have hfw : w.heap.size ≤ f := (by have := Hg_f.out; have := ((hk_g.trans hk2).trans hk3).size; omega); have hpw : w.heap.size ≤ p := (by have := Hg_p.out; have := (((hk_g.trans hk2).trans hk3).trans hk_f).size; omega); have K7 : KpN w w7 := ((((((hk_g.trans hk2).trans hk3).trans hk_f).trans hk_p).then ks_w6 fun i hi (e : i = f) => by omega).then ks_w7 fun i hi (e : i = p) => by omega); clear hb_g hk_g Hg_g hk2 hG2 hC2 hk3 hb_f hk_f Hg_f hb_p hk_p Hg_p hs_w6 ks_w6 hP6 hs_w7 ks_w7))
  have hnew := heap_alloc_new w7 (.cells #[.int .i64 8, .int .i64 9, .int .i64 0, .int .i64 11] 3)
  have hq := hI.lt
  have hp_ := hP.lt
  have hI8 : St FT (w7.alloc (.cells #[.int .i64 8, .int .i64 9, .int .i64 0, .int .i64 11] 3)) f S := hI.alloc _
  have hP8 : St RT (w7.alloc (.cells #[.int .i64 8, .int .i64 9, .int .i64 0, .int .i64 11] 3)) p R := hP.alloc _
  have K8 : KpN w (w7.alloc (.cells #[.int .i64 8, .int .i64 9, .int .i64 0, .int .i64 11] 3)) := K7.alloc _
  have hL8 : Bk (w7.alloc (.cells #[.int .i64 8, .int .i64 9, .int .i64 0, .int .i64 11] 3)) w7.heap.size #[.int .i64 8, .int .i64 9, .int .i64 0, .int .i64 11] 3 := ⟨hnew⟩
  generalize w7.alloc (.cells #[.int .i64 8, .int .i64 9, .int .i64 0, .int .i64 11] 3) = w8 at hI8 hP8 K8 hL8 ⊢
  generalize w7.heap.size = qb at hL8 ⊢
  clear hnew hq hp_ hI hP K7
  have cMW := rg_calls (w := w8) fun W hW => MW.out f W (hI8.kp hW (fun h => h))
  have cMF := rg_calls (w := w8) fun W hW => MF.out f W (hI8.kp hW (fun h => h))
  have cCL := rg_calls (w := w8) fun W hW => CL.out f W (hI8.kp hW (fun h => h))
  have cJ1 := rg_calls (w := w8) fun W _ => J21.out W
  have cJ0 := rg_calls (w := w8) fun W _ => J20.out W
  have cFA := rg_calls (w := w8) fun W _ => FA.out W
  have cFR := rg_calls (w := w8) fun W _ => FR.out W
  have cCR := rg_calls (w := w8) fun W _ => CR.out W
  have cF2 := rg_calls (w := w8) fun W _ => F2.out W
  have kR : ∀ W, Rg w8 W → W.heap[p]? = some (.cells R.cells 34 (0, 0)) := fun W h => (hP8.kp h.kp (fun h => h)).blk
  have KR := Aside0.mk kR
  have c0 := hP8.c0
  rw [HmR.out] at c0
  have k0 := cell_regrown c0
  have k1 := cell_regrown (show w8.cell? ⟨qb, 1, none⟩ = some (.int .i64 9) from hL8.c 1)
  clear kR c0
  refine wp_region_quiet_below (by kernel_rfl) (by kernel_rfl) ?_
  repeat (quiet_step (first | with_reducible exact cMW _ _ | with_reducible exact cMF _ _ | with_reducible exact cCL _ _ | with_reducible exact cJ1 _ _ | with_reducible exact cJ0 _ _ | with_reducible exact cFA _ _ | with_reducible exact cFR _ _ | with_reducible exact cCR _ _ | with_reducible exact cF2 _ _))
  refine wpQuiet_ld (C := Rg w8) (by rfl) rfl p rfl 34 R.cells _ KR.out rfl rfl rfl ?_
  repeat (quiet_step (first | with_reducible exact cMW _ _ | with_reducible exact cMF _ _ | with_reducible exact cCL _ _ | with_reducible exact cJ1 _ _ | with_reducible exact cJ0 _ _ | with_reducible exact cFA _ _ | with_reducible exact cFR _ _ | with_reducible exact cCR _ _ | with_reducible exact cF2 _ _))
  refine wpQuiet_ld (C := Rg w8) (by rfl) rfl p rfl 34 R.cells _ KR.out rfl rfl rfl ?_
  repeat (quiet_step (first | with_reducible exact cMW _ _ | with_reducible exact cMF _ _ | with_reducible exact cCL _ _ | with_reducible exact cJ1 _ _ | with_reducible exact cJ0 _ _ | with_reducible exact cFA _ _ | with_reducible exact cFR _ _ | with_reducible exact cCR _ _ | with_reducible exact cF2 _ _))
  refine wpQuiet_nil ?_
  intro w9 hw9
  replace hw9 : Rg w8 w9 := hw9
  have K9 := K8.trans hw9.kp
  go_wp2
  go_ret
  exact ⟨rfl, K9.below (fun _ _ h => h.elim) (Nat.le_refl _)⟩
set_option maxHeartbeats 8000000 in
set_option maxRecDepth 100000 in
theorem task3p_yes (m : Int) (A : Option Addr) (c : Nat) (l : Nat) (xs : List WR) (kd : Int) (w : World) (hC : Kd.C k68 w A xs.length xs) (hx : wrOk xs) (hl : U l) (hb : bgOk m xs.length) (hm0 : ∀ S : VS, bgF m xs l = S → S.m = 3) :
    Calls Try.prog 8 #[.agg (startC m A xs.length c (l : Int)), .int .i64 kd, .bool true] w fun e w' => e = .returned (.bool true) ∧ Below w.heap.size w w' := by
  have Hb := Aside0.mk hb
  have hRel := Rel.bg hx m l
  have hF : (bgF m xs l).ok := bgF_ok hx hl m
  have hR : (bgR m xs l).ok := bgR_ok hx hl m
  obtain ⟨S, hS⟩ : ∃ S, bgF m xs l = S := ⟨_, rfl⟩
  obtain ⟨R, hRR⟩ : ∃ R, bgR m xs l = R := ⟨_, rfl⟩
  have hmS : S.m = m := by rw [← hS]; rfl
  rw [hS] at hF hRel
  rw [hRR] at hR hRel
  have by_ := fun w hC => begun_yes m A c l xs w Hb.out hC hx hl
  rw [hS, hRR] at by_
  have By := Aside0.mk by_
  have HmS := Aside0.mk hmS
  have hS0 := hS
  have hRR0 := hRR
  clear by_ hS hRR hb hmS
  have hm := hm0 S hS0
  have hmR : R.m = 3 := hRel.m ▸ hm
  have e1 : S.r 1 = R.r 1 := hRel.r1
  have J21 : Aside0 (∀ W, Calls Try.prog 26 #[.agg R.cells, .int .i64 21] W fun e w' => e = .returned (.bool (bitW (S.r 1) 21)) ∧ KpN W w') := ⟨fun W => by rw [e1]; exact is_r R 21 W hR⟩
  have J20 : Aside0 (∀ W, Calls Try.prog 26 #[.agg R.cells, .int .i64 20] W fun e w' => e = .returned (.bool (bitW (S.r 1) 20)) ∧ KpN W w') := ⟨fun W => by rw [e1]; exact is_r R 20 W hR⟩
  obtain ⟨b21, h21⟩ : ∃ b, bitW (S.r 1) 21 = b := ⟨_, rfl⟩
  obtain ⟨b20, h20⟩ : ∃ b, bitW (S.r 1) 20 = b := ⟨_, rfl⟩
  have MW : Aside0 (∀ (g : Nat) W, St FT W g S → Calls Try.prog 25 #[.pointer (some ⟨g, 0, none⟩)] W fun e w' => e = .returned (.bool (true)) ∧ KpN W w') := ⟨fun g W h => by
    have := wait_c g S W h hF; rw [hm, h21] at this; exact this.mono fun _ _ q => ⟨q.1, by obtain ⟨k, hk⟩ := q.2; rw [hk]; exact (Kp.refl _ _).drewN _⟩⟩
  have MF : Aside0 (∀ (g : Nat) W, St FT W g S → Calls Try.prog 27 #[.pointer (some ⟨g, 0, none⟩)] W fun e w' => e = .returned (.bool (true)) ∧ KpN W w') := ⟨fun g W h => by
    have := fence_c g S W h hF; rw [hm, h20] at this; exact this.mono fun _ _ q => ⟨q.1, by obtain ⟨k, hk⟩ := q.2; rw [hk]; exact (Kp.refl _ _).drewN _⟩⟩
  have CL : Aside0 (∀ (g : Nat) W, St FT W g S → Calls Try.prog 28 #[.pointer (some ⟨g, 0, none⟩)] W fun e w' => e = .returned (.int .i64 11) ∧ KpN W w') := ⟨fun g W h => by
    have := call_c g S W h; rw [hm] at this; exact this.mono fun _ _ q => ⟨q.1, q.2 ▸ Kp.refl _ _⟩⟩
  have FA : Aside0 (∀ W, Calls Try.prog 29 #[.int .i64 kd, .bool true] W fun e w' => e = .returned (.int .i64 (rfaultW kd 1)) ∧ KpN W w') := ⟨fun W => by
    rw [← fault_eq1]; exact (fault_c kd true W).mono fun _ _ q => ⟨q.1, q.2 ▸ Kp.refl _ _⟩⟩
  have FR : Aside0 (∀ W, Calls Try.prog 30 #[.int .i64 kd, .int .i64 1] W fun e w' => e = .returned (.int .i64 (rfaultW kd 1)) ∧ KpN W w') := ⟨fun W => fault_r1 kd W⟩
  have CR : Aside0 (∀ W, Calls Try.prog 31 #[.int .i64 kd] W fun e w' => e = .returned (.int .i64 (rfaultW kd 2)) ∧ KpN W w') := ⟨fun W => by
    rw [← crooked_eq]; exact (crooked_c kd W).mono fun _ _ q => ⟨q.1, q.2 ▸ Kp.refl _ _⟩⟩
  have F2 : Aside0 (∀ W, Calls Try.prog 30 #[.int .i64 kd, .int .i64 2] W fun e w' => e = .returned (.int .i64 (rfaultW kd 2)) ∧ KpN W w') := ⟨fun W => fault_r2 kd W⟩
  rw [h21] at J21
  rw [h20] at J20
  generalize rfaultW kd 2 = fv2 at CR F2
  generalize rfaultW kd 1 = fv1 at FA FR
  have HmR := Aside0.mk hmR
  clear hm hmR hm0 hS0 hRR0 hRel e1 h21 h20
  go_enter Try.func8, Try.ntmps8
  go_wp2_with (first
    | ((with_reducible refine gate_dst (N := 3) rfl ?_); refine bx_ev rfl rfl (N := 3) rfl (startC m A xs.length c (l : Int)) rfl ?_; intro g hg_g w1 hb_g hk_g; have Hg_g := Aside0.mk hg_g; clear hg_g)
    | (go_at_call 9; refine (awake9_c _).mono ?_; rintro e w2 ⟨rfl, hk2⟩; have hG2 := (Bk.mk hb_g).kp hk2 (fun h => h); have hC2 : Kd.C k68 w2 A xs.length xs := Kd.C_below hC ((hk_g.trans hk2).below (fun _ _ h => h.elim) (Nat.le_refl _)))
    | ((with_reducible refine gate_dst (N := 15) rfl ?_); refine wpList_load_row rfl 25 _ rfl g rfl _ (startC m A xs.length c (l : Int)) (0, 0) _ (hG2.blk) Try.underlying25 rfl infoS ?_)
    | (go_at_call 10; refine ((By.out _ hC2)).mono ?_; rintro e w3 ⟨rfl, hk3⟩)
    | ((with_reducible refine gate_dst (N := 7) rfl ?_); refine al_ev rfl rfl (N := 7) rfl _ (zeroF _) ?_; intro f hg_f w4 hb_f hk_f; have Hg_f := Aside0.mk hg_f; clear hg_f)
    | ((with_reducible refine gate_dst (N := 8) rfl ?_); refine al_ev rfl rfl (N := 8) rfl _ (zeroR _) ?_; intro p hg_p w5 hb_p hk_p; have Hg_p := Aside0.mk hg_p; clear hg_p)
    | (((with_reducible refine gate_store (t := 31) (p := 7) rfl ?_); refine st_ev rfl rfl rfl f (S.cells) _ _ rfl rfl (((Bk.mk hb_f).kp hk_p (fun h => h)).blk) infoF rfl (VS.one _) ?_; intro w6 hs_w6 ks_w6); have hpf : p ≠ f := (by have := Hg_p.out; have := blk_lt hb_f; omega); have hP6 := (Bk.mk hb_p).kp ks_w6 hpf)
    | (((with_reducible refine gate_store (t := 34) (p := 8) rfl ?_); refine st_ev rfl rfl rfl p (R.cells) _ _ rfl rfl (hP6.blk) infoR rfl (VS.one _) ?_; intro w7 hs_w7 ks_w7); have hI : St FT w7 f S := (St.mk hs_w6).kp ks_w7 (fun e : f = p => hpf e.symm); have hP : St RT w7 p R := St.mk hs_w7; have hfw : w.heap.size ≤ f := (by have := Hg_f.out; have := ((hk_g.trans hk2).trans hk3).size; omega); have hpw : w.heap.size ≤ p := (by have := Hg_p.out; have := (((hk_g.trans hk2).trans hk3).trans hk_f).size; omega); have K7 : KpN w w7 := ((((((hk_g.trans hk2).trans hk3).trans hk_f).trans hk_p).then ks_w6 fun i hi (e : i = f) => by omega).then ks_w7 fun i hi (e : i = p) => by omega); clear hb_g hk_g Hg_g hk2 hG2 hC2 hk3 hb_f hk_f Hg_f hb_p hk_p Hg_p hs_w6 ks_w6 hP6 hs_w7 ks_w7))
  have hnew := heap_alloc_new w7 (.cells #[.int .i64 8, .int .i64 9, .int .i64 0, .int .i64 11] 3)
  have hq := hI.lt
  have hp_ := hP.lt
  have hI8 : St FT (w7.alloc (.cells #[.int .i64 8, .int .i64 9, .int .i64 0, .int .i64 11] 3)) f S := hI.alloc _
  have hP8 : St RT (w7.alloc (.cells #[.int .i64 8, .int .i64 9, .int .i64 0, .int .i64 11] 3)) p R := hP.alloc _
  have K8 : KpN w (w7.alloc (.cells #[.int .i64 8, .int .i64 9, .int .i64 0, .int .i64 11] 3)) := K7.alloc _
  have hL8 : Bk (w7.alloc (.cells #[.int .i64 8, .int .i64 9, .int .i64 0, .int .i64 11] 3)) w7.heap.size #[.int .i64 8, .int .i64 9, .int .i64 0, .int .i64 11] 3 := ⟨hnew⟩
  generalize w7.alloc (.cells #[.int .i64 8, .int .i64 9, .int .i64 0, .int .i64 11] 3) = w8 at hI8 hP8 K8 hL8 ⊢
  generalize w7.heap.size = qb at hL8 ⊢
  clear hnew hq hp_ hI hP K7
  have cMW := rg_calls (w := w8) fun W hW => MW.out f W (hI8.kp hW (fun h => h))
  have cMF := rg_calls (w := w8) fun W hW => MF.out f W (hI8.kp hW (fun h => h))
  have cCL := rg_calls (w := w8) fun W hW => CL.out f W (hI8.kp hW (fun h => h))
  have cJ1 := rg_calls (w := w8) fun W _ => J21.out W
  have cJ0 := rg_calls (w := w8) fun W _ => J20.out W
  have cFA := rg_calls (w := w8) fun W _ => FA.out W
  have cFR := rg_calls (w := w8) fun W _ => FR.out W
  have cCR := rg_calls (w := w8) fun W _ => CR.out W
  have cF2 := rg_calls (w := w8) fun W _ => F2.out W
  have kR : ∀ W, Rg w8 W → W.heap[p]? = some (.cells R.cells 34 (0, 0)) := fun W h => (hP8.kp h.kp (fun h => h)).blk
  have KR := Aside0.mk kR
  have c0 := hP8.c0
  rw [HmR.out] at c0
  have k0 := cell_regrown c0
  have k1 := cell_regrown (show w8.cell? ⟨qb, 3, none⟩ = some (.int .i64 11) from hL8.c 3)
  clear kR c0
  refine wp_region_quiet_below (by kernel_rfl) (by kernel_rfl) ?_
  repeat (quiet_step (first | with_reducible exact cMW _ _ | with_reducible exact cMF _ _ | with_reducible exact cCL _ _ | with_reducible exact cJ1 _ _ | with_reducible exact cJ0 _ _ | with_reducible exact cFA _ _ | with_reducible exact cFR _ _ | with_reducible exact cCR _ _ | with_reducible exact cF2 _ _))
  refine wpQuiet_nil ?_
  intro w9 hw9
  replace hw9 : Rg w8 w9 := hw9
  have K9 := K8.trans hw9.kp
  go_wp2
  go_ret
  exact ⟨rfl, K9.below (fun _ _ h => h.elim) (Nat.le_refl _)⟩
set_option maxHeartbeats 8000000 in
set_option maxRecDepth 100000 in
theorem task3q_yes (m : Int) (A : Option Addr) (c : Nat) (l : Nat) (xs : List WR) (kd : Int) (w : World) (hC : Kd.C k68 w A xs.length xs) (hx : wrOk xs) (hl : U l) (hb : bgOk m xs.length) (hm0 : ∀ S : VS, bgF m xs l = S → S.m = 3) :
    Calls Try.prog 8 #[.agg (startC m A xs.length c (l : Int)), .int .i64 kd, .bool false] w fun e w' => e = .returned (.bool true) ∧ Below w.heap.size w w' := by
  have Hb := Aside0.mk hb
  have hRel := Rel.bg hx m l
  have hF : (bgF m xs l).ok := bgF_ok hx hl m
  have hR : (bgR m xs l).ok := bgR_ok hx hl m
  obtain ⟨S, hS⟩ : ∃ S, bgF m xs l = S := ⟨_, rfl⟩
  obtain ⟨R, hRR⟩ : ∃ R, bgR m xs l = R := ⟨_, rfl⟩
  have hmS : S.m = m := by rw [← hS]; rfl
  rw [hS] at hF hRel
  rw [hRR] at hR hRel
  have by_ := fun w hC => begun_yes m A c l xs w Hb.out hC hx hl
  rw [hS, hRR] at by_
  have By := Aside0.mk by_
  have HmS := Aside0.mk hmS
  have hS0 := hS
  have hRR0 := hRR
  clear by_ hS hRR hb hmS
  have hm := hm0 S hS0
  have hmR : R.m = 3 := hRel.m ▸ hm
  have e1 : S.r 1 = R.r 1 := hRel.r1
  have J21 : Aside0 (∀ W, Calls Try.prog 26 #[.agg R.cells, .int .i64 21] W fun e w' => e = .returned (.bool (bitW (S.r 1) 21)) ∧ KpN W w') := ⟨fun W => by rw [e1]; exact is_r R 21 W hR⟩
  have J20 : Aside0 (∀ W, Calls Try.prog 26 #[.agg R.cells, .int .i64 20] W fun e w' => e = .returned (.bool (bitW (S.r 1) 20)) ∧ KpN W w') := ⟨fun W => by rw [e1]; exact is_r R 20 W hR⟩
  obtain ⟨b21, h21⟩ : ∃ b, bitW (S.r 1) 21 = b := ⟨_, rfl⟩
  obtain ⟨b20, h20⟩ : ∃ b, bitW (S.r 1) 20 = b := ⟨_, rfl⟩
  have MW : Aside0 (∀ (g : Nat) W, St FT W g S → Calls Try.prog 25 #[.pointer (some ⟨g, 0, none⟩)] W fun e w' => e = .returned (.bool (true)) ∧ KpN W w') := ⟨fun g W h => by
    have := wait_c g S W h hF; rw [hm, h21] at this; exact this.mono fun _ _ q => ⟨q.1, by obtain ⟨k, hk⟩ := q.2; rw [hk]; exact (Kp.refl _ _).drewN _⟩⟩
  have MF : Aside0 (∀ (g : Nat) W, St FT W g S → Calls Try.prog 27 #[.pointer (some ⟨g, 0, none⟩)] W fun e w' => e = .returned (.bool (true)) ∧ KpN W w') := ⟨fun g W h => by
    have := fence_c g S W h hF; rw [hm, h20] at this; exact this.mono fun _ _ q => ⟨q.1, by obtain ⟨k, hk⟩ := q.2; rw [hk]; exact (Kp.refl _ _).drewN _⟩⟩
  have CL : Aside0 (∀ (g : Nat) W, St FT W g S → Calls Try.prog 28 #[.pointer (some ⟨g, 0, none⟩)] W fun e w' => e = .returned (.int .i64 11) ∧ KpN W w') := ⟨fun g W h => by
    have := call_c g S W h; rw [hm] at this; exact this.mono fun _ _ q => ⟨q.1, q.2 ▸ Kp.refl _ _⟩⟩
  have FA : Aside0 (∀ W, Calls Try.prog 29 #[.int .i64 kd, .bool false] W fun e w' => e = .returned (.int .i64 (rfaultW kd 0)) ∧ KpN W w') := ⟨fun W => by
    rw [← fault_eq0]; exact (fault_c kd false W).mono fun _ _ q => ⟨q.1, q.2 ▸ Kp.refl _ _⟩⟩
  have FR : Aside0 (∀ W, Calls Try.prog 30 #[.int .i64 kd, .int .i64 0] W fun e w' => e = .returned (.int .i64 (rfaultW kd 0)) ∧ KpN W w') := ⟨fun W => fault_r0 kd W⟩
  have CR : Aside0 (∀ W, Calls Try.prog 31 #[.int .i64 kd] W fun e w' => e = .returned (.int .i64 (rfaultW kd 2)) ∧ KpN W w') := ⟨fun W => by
    rw [← crooked_eq]; exact (crooked_c kd W).mono fun _ _ q => ⟨q.1, q.2 ▸ Kp.refl _ _⟩⟩
  have F2 : Aside0 (∀ W, Calls Try.prog 30 #[.int .i64 kd, .int .i64 2] W fun e w' => e = .returned (.int .i64 (rfaultW kd 2)) ∧ KpN W w') := ⟨fun W => fault_r2 kd W⟩
  rw [h21] at J21
  rw [h20] at J20
  generalize rfaultW kd 2 = fv2 at CR F2
  generalize rfaultW kd 0 = fv1 at FA FR
  have HmR := Aside0.mk hmR
  clear hm hmR hm0 hS0 hRR0 hRel e1 h21 h20
  go_enter Try.func8, Try.ntmps8
  go_wp2_with (first
    | ((with_reducible refine gate_dst (N := 3) rfl ?_); refine bx_ev rfl rfl (N := 3) rfl (startC m A xs.length c (l : Int)) rfl ?_; intro g hg_g w1 hb_g hk_g; have Hg_g := Aside0.mk hg_g; clear hg_g)
    | (go_at_call 9; refine (awake9_c _).mono ?_; rintro e w2 ⟨rfl, hk2⟩; have hG2 := (Bk.mk hb_g).kp hk2 (fun h => h); have hC2 : Kd.C k68 w2 A xs.length xs := Kd.C_below hC ((hk_g.trans hk2).below (fun _ _ h => h.elim) (Nat.le_refl _)))
    | ((with_reducible refine gate_dst (N := 15) rfl ?_); refine wpList_load_row rfl 25 _ rfl g rfl _ (startC m A xs.length c (l : Int)) (0, 0) _ (hG2.blk) Try.underlying25 rfl infoS ?_)
    | (go_at_call 10; refine ((By.out _ hC2)).mono ?_; rintro e w3 ⟨rfl, hk3⟩)
    | ((with_reducible refine gate_dst (N := 7) rfl ?_); refine al_ev rfl rfl (N := 7) rfl _ (zeroF _) ?_; intro f hg_f w4 hb_f hk_f; have Hg_f := Aside0.mk hg_f; clear hg_f)
    | ((with_reducible refine gate_dst (N := 8) rfl ?_); refine al_ev rfl rfl (N := 8) rfl _ (zeroR _) ?_; intro p hg_p w5 hb_p hk_p; have Hg_p := Aside0.mk hg_p; clear hg_p)
    | (((with_reducible refine gate_store (t := 31) (p := 7) rfl ?_); refine st_ev rfl rfl rfl f (S.cells) _ _ rfl rfl (((Bk.mk hb_f).kp hk_p (fun h => h)).blk) infoF rfl (VS.one _) ?_; intro w6 hs_w6 ks_w6); have hpf : p ≠ f := (by have := Hg_p.out; have := blk_lt hb_f; omega); have hP6 := (Bk.mk hb_p).kp ks_w6 hpf)
    | (((with_reducible refine gate_store (t := 34) (p := 8) rfl ?_); refine st_ev rfl rfl rfl p (R.cells) _ _ rfl rfl (hP6.blk) infoR rfl (VS.one _) ?_; intro w7 hs_w7 ks_w7); have hI : St FT w7 f S := (St.mk hs_w6).kp ks_w7 (fun e : f = p => hpf e.symm); have hP : St RT w7 p R := St.mk hs_w7; have hfw : w.heap.size ≤ f := (by have := Hg_f.out; have := ((hk_g.trans hk2).trans hk3).size; omega); have hpw : w.heap.size ≤ p := (by have := Hg_p.out; have := (((hk_g.trans hk2).trans hk3).trans hk_f).size; omega); have K7 : KpN w w7 := ((((((hk_g.trans hk2).trans hk3).trans hk_f).trans hk_p).then ks_w6 fun i hi (e : i = f) => by omega).then ks_w7 fun i hi (e : i = p) => by omega); clear hb_g hk_g Hg_g hk2 hG2 hC2 hk3 hb_f hk_f Hg_f hb_p hk_p Hg_p hs_w6 ks_w6 hP6 hs_w7 ks_w7))
  have hnew := heap_alloc_new w7 (.cells #[.int .i64 8, .int .i64 9, .int .i64 0, .int .i64 11] 3)
  have hq := hI.lt
  have hp_ := hP.lt
  have hI8 : St FT (w7.alloc (.cells #[.int .i64 8, .int .i64 9, .int .i64 0, .int .i64 11] 3)) f S := hI.alloc _
  have hP8 : St RT (w7.alloc (.cells #[.int .i64 8, .int .i64 9, .int .i64 0, .int .i64 11] 3)) p R := hP.alloc _
  have K8 : KpN w (w7.alloc (.cells #[.int .i64 8, .int .i64 9, .int .i64 0, .int .i64 11] 3)) := K7.alloc _
  have hL8 : Bk (w7.alloc (.cells #[.int .i64 8, .int .i64 9, .int .i64 0, .int .i64 11] 3)) w7.heap.size #[.int .i64 8, .int .i64 9, .int .i64 0, .int .i64 11] 3 := ⟨hnew⟩
  generalize w7.alloc (.cells #[.int .i64 8, .int .i64 9, .int .i64 0, .int .i64 11] 3) = w8 at hI8 hP8 K8 hL8 ⊢
  generalize w7.heap.size = qb at hL8 ⊢
  clear hnew hq hp_ hI hP K7
  have cMW := rg_calls (w := w8) fun W hW => MW.out f W (hI8.kp hW (fun h => h))
  have cMF := rg_calls (w := w8) fun W hW => MF.out f W (hI8.kp hW (fun h => h))
  have cCL := rg_calls (w := w8) fun W hW => CL.out f W (hI8.kp hW (fun h => h))
  have cJ1 := rg_calls (w := w8) fun W _ => J21.out W
  have cJ0 := rg_calls (w := w8) fun W _ => J20.out W
  have cFA := rg_calls (w := w8) fun W _ => FA.out W
  have cFR := rg_calls (w := w8) fun W _ => FR.out W
  have cCR := rg_calls (w := w8) fun W _ => CR.out W
  have cF2 := rg_calls (w := w8) fun W _ => F2.out W
  have kR : ∀ W, Rg w8 W → W.heap[p]? = some (.cells R.cells 34 (0, 0)) := fun W h => (hP8.kp h.kp (fun h => h)).blk
  have KR := Aside0.mk kR
  have c0 := hP8.c0
  rw [HmR.out] at c0
  have k0 := cell_regrown c0
  have k1 := cell_regrown (show w8.cell? ⟨qb, 3, none⟩ = some (.int .i64 11) from hL8.c 3)
  clear kR c0
  refine wp_region_quiet_below (by kernel_rfl) (by kernel_rfl) ?_
  repeat (quiet_step (first | with_reducible exact cMW _ _ | with_reducible exact cMF _ _ | with_reducible exact cCL _ _ | with_reducible exact cJ1 _ _ | with_reducible exact cJ0 _ _ | with_reducible exact cFA _ _ | with_reducible exact cFR _ _ | with_reducible exact cCR _ _ | with_reducible exact cF2 _ _))
  refine wpQuiet_nil ?_
  intro w9 hw9
  replace hw9 : Rg w8 w9 := hw9
  have K9 := K8.trans hw9.kp
  go_wp2
  go_ret
  exact ⟨rfl, K9.below (fun _ _ h => h.elim) (Nat.le_refl _)⟩
theorem task_no (m : Int) (A : Option Addr) (c : Nat) (l : Nat) (xs : List WR) (kd : Int) (b : Bool) (w : World) (hC : Kd.C k68 w A xs.length xs) (hb : ¬ bgOk m xs.length) :
    Calls Try.prog 8 #[.agg (startC m A xs.length c (l : Int)), .int .i64 kd, .bool b] w fun e w' => e = .returned (.bool true) ∧ Below w.heap.size w w' := by
  cases b
  · exact task0q_no m A c l xs kd w hC hb
  · exact task0p_no m A c l xs kd w hC hb
theorem task_yes (m : Int) (A : Option Addr) (c : Nat) (l : Nat) (xs : List WR) (kd : Int) (b : Bool) (w : World) (hC : Kd.C k68 w A xs.length xs) (hx : wrOk xs) (hl : U l) (hb : bgOk m xs.length) :
    Calls Try.prog 8 #[.agg (startC m A xs.length c (l : Int)), .int .i64 kd, .bool b] w fun e w' => e = .returned (.bool true) ∧ Below w.heap.size w w' := by
  have hM := (bg_mode (xs := xs) (l := l) hb).1
  rcases hM with h | h | h <;> cases b
  · exact task0q_yes m A c l xs kd w hC hx hl hb (fun S e => e ▸ h)
  · exact task0p_yes m A c l xs kd w hC hx hl hb (fun S e => e ▸ h)
  · exact task1q_yes m A c l xs kd w hC hx hl hb (fun S e => e ▸ h)
  · exact task1p_yes m A c l xs kd w hC hx hl hb (fun S e => e ▸ h)
  · exact task3q_yes m A c l xs kd w hC hx hl hb (fun S e => e ▸ h)
  · exact task3p_yes m A c l xs kd w hC hx hl hb (fun S e => e ▸ h)
end Go.Proofs.Ytnknfepbekaobaa.H
