/- TrapReturns, walked by hand: the ways back. -/
import Derived.Test.YtnknfepbekaobaaTd
namespace Go.Proofs.Ytnknfepbekaobaa.H
open Go.RowKit Go.Proofs.YtnknfepbekaobaaW.PrintWords Go.Proofs.YtnknfepbekaobaaW.PrintLast Go.Proofs.Ytnknfepbekaobaa.PAl Go.Proofs.Ytnknfepbekaobaa.Pure Go.Proofs.Ytnknfepbekaobaa.Vw
set_option linter.unusedVariables false
set_option linter.unusedSimpArgs false
open Go.Sort
set_option maxHeartbeats 8000000 in
set_option maxRecDepth 100000 in
theorem tretS_no (m : Int) (A : Option Addr) (c : Nat) (l : Nat) (xs : List WR)  (w : World) (hC : Kd.C k68 w A xs.length xs) (hb : ¬ bgOk m xs.length) :
    Calls Try.prog 6 #[.agg (startC m A xs.length c (l : Int)), .bool true] w fun e w' => e = .returned (.bool true) ∧ Below w.heap.size w w' := by
  have Hb := Aside0.mk hb
  clear hb
  go_enter Try.func6, Try.ntmps6
  go_wp2_with (first
    | ((with_reducible refine gate_dst (N := 2) rfl ?_); refine bx_ev rfl rfl (N := 2) rfl (startC m A xs.length c (l : Int)) rfl ?_; intro g hg_g w1 hb_g hk_g; have Hg_g := Aside0.mk hg_g; clear hg_g)
    | (go_at_call 9; refine (awake9_c _).mono ?_; rintro e w2 ⟨rfl, hk2⟩; have hG2 := (Bk.mk hb_g).kp hk2 (fun h => h); have hC2 : Kd.C k68 w2 A xs.length xs := Kd.C_below hC ((hk_g.trans hk2).below (fun _ _ h => h.elim) (Nat.le_refl _)))
    | ((with_reducible refine gate_dst (N := 21) rfl ?_); refine wpList_load_row rfl 25 _ rfl g rfl _ (startC m A xs.length c (l : Int)) (0, 0) _ (hG2.blk) Try.underlying25 rfl infoS ?_)
    | (go_at_call 10; refine ((begun_no m A c l xs _ Hb.out)).mono ?_; rintro e w3 ⟨rfl, hk3⟩)
    | ((with_reducible refine gate_dst (N := 5) rfl ?_); refine al_ev rfl rfl (N := 5) rfl _ (zeroF _) ?_; intro f hg_f w4 hb_f hk_f; have Hg_f := Aside0.mk hg_f; clear hg_f)
    | ((with_reducible refine gate_dst (N := 6) rfl ?_); refine al_ev rfl rfl (N := 6) rfl _ (zeroR _) ?_; intro p hg_p w5 hb_p hk_p; have Hg_p := Aside0.mk hg_p; clear hg_p)
    | (((with_reducible refine gate_store (t := 31) (p := 5) rfl ?_); refine st_ev rfl rfl rfl f (vs0.cells) _ _ rfl rfl (((Bk.mk hb_f).kp hk_p (fun h => h)).blk) infoF rfl (VS.one _) ?_; intro w6 hs_w6 ks_w6); have hpf : p ≠ f := (by have := Hg_p.out; have := blk_lt hb_f; omega); have hP6 := (Bk.mk hb_p).kp ks_w6 hpf)
    | (((with_reducible refine gate_store (t := 34) (p := 6) rfl ?_); refine st_ev rfl rfl rfl p (vs0.cells) _ _ rfl rfl (hP6.blk) infoR rfl (VS.one _) ?_; intro w7 hs_w7 ks_w7); have hI : St FT w7 f vs0 := (St.mk hs_w6).kp ks_w7 (fun e : f = p => hpf e.symm); have hP : St RT w7 p vs0 := St.mk hs_w7; have hfw : w.heap.size ≤ f := (by have := Hg_f.out; have := ((hk_g.trans hk2).trans hk3).size; omega); have hpw : w.heap.size ≤ p := (by have := Hg_p.out; have := (((hk_g.trans hk2).trans hk3).trans hk_f).size; omega); have K7 : KpN w w7 := ((((((hk_g.trans hk2).trans hk3).trans hk_f).trans hk_p).then ks_w6 fun i hi (e : i = f) => by omega).then ks_w7 fun i hi (e : i = p) => by omega); clear hb_g hk_g Hg_g hk2 hG2 hC2 hk3 hb_f hk_f Hg_f hb_p hk_p Hg_p hs_w6 ks_w6 hP6 hs_w7 ks_w7))
  go_ret
  exact ⟨rfl, K7.below (fun _ _ h => h.elim) (Nat.le_refl _)⟩
set_option maxHeartbeats 8000000 in
set_option maxRecDepth 100000 in
theorem tretS_yes (m : Int) (A : Option Addr) (c : Nat) (l : Nat) (xs : List WR)  (w : World) (hC : Kd.C k68 w A xs.length xs) (hx : wrOk xs) (hl : U l) (hb : bgOk m xs.length) :
    Calls Try.prog 6 #[.agg (startC m A xs.length c (l : Int)), .bool true] w fun e w' => e = .returned (.bool true) ∧ Below w.heap.size w w' := by
  have Hb := Aside0.mk hb
  have hRel := Rel.bg hx m l
  have hF : (bgF m xs l).ok := bgF_ok hx hl m
  have hR : (bgR m xs l).ok := bgR_ok hx hl m
  obtain ⟨S, hS⟩ : ∃ S, bgF m xs l = S := ⟨_, rfl⟩
  obtain ⟨R, hRR⟩ : ∃ R, bgR m xs l = R := ⟨_, rfl⟩
  have hmS : S.m = m := by rw [← hS]; rfl
  rw [hS] at hF hRel
  rw [hRR] at hR hRel
  have by_ := fun w hC => begun_yes m A c l xs w Hb.out hC hx hl
  rw [hS, hRR] at by_
  have By := Aside0.mk by_
  have HmS := Aside0.mk hmS
  have hS0 := hS
  have hRR0 := hRR
  clear by_ hS hRR hb hmS
  have hMo := (bg_mode (xs := xs) (l := l) Hb.out)
  rw [hS0, hRR0] at hMo
  have ee : sretB R = sretB S := hRel.sretB.symm
  have e16 : R.r 16 = S.r 16 := (hRel.r 15 (by decide)).symm
  have hr2 : Rel (if sretB S = true then sretS S else S) (if sretB S = true then rsretS R else R) := by
    split
    · exact hRel.sret hF
    · exact hRel
  have x1 := fun (g : Nat) W h => sret_c g S W h hF hMo.1
  have x2 := fun W => rsret_c R W hR hMo.2
  rw [ee, e16] at x2
  generalize (if sretB S = true then sretS S else S) = S2 at x1 hr2
  generalize (if sretB S = true then rsretS R else R) = R2 at x2 hr2
  generalize (if sretB S = true then S.r 16 else 0) = r at x1 x2
  generalize sretB S = b at x1 x2
  clear ee e16
  have X1 := Aside0.mk x1
  have X2 := Aside0.mk x2
  have SM2 : Aside0 (∀ W, Calls Try.prog 14 #[.agg S2.cells, .agg R2.cells] W fun e w' => e = .returned (.bool true) ∧ KpN W w') := ⟨fun W => by
    have := same_c S2 R2 W; rw [hr2.same] at this; exact this⟩
  clear x1 x2 hr2 hMo hS0 hRR0
  go_enter Try.func6, Try.ntmps6
  go_wp2_with (first
    | ((with_reducible refine gate_dst (N := 2) rfl ?_); refine bx_ev rfl rfl (N := 2) rfl (startC m A xs.length c (l : Int)) rfl ?_; intro g hg_g w1 hb_g hk_g; have Hg_g := Aside0.mk hg_g; clear hg_g)
    | (go_at_call 9; refine (awake9_c _).mono ?_; rintro e w2 ⟨rfl, hk2⟩; have hG2 := (Bk.mk hb_g).kp hk2 (fun h => h); have hC2 : Kd.C k68 w2 A xs.length xs := Kd.C_below hC ((hk_g.trans hk2).below (fun _ _ h => h.elim) (Nat.le_refl _)))
    | ((with_reducible refine gate_dst (N := 21) rfl ?_); refine wpList_load_row rfl 25 _ rfl g rfl _ (startC m A xs.length c (l : Int)) (0, 0) _ (hG2.blk) Try.underlying25 rfl infoS ?_)
    | (go_at_call 10; refine ((By.out _ hC2)).mono ?_; rintro e w3 ⟨rfl, hk3⟩)
    | ((with_reducible refine gate_dst (N := 5) rfl ?_); refine al_ev rfl rfl (N := 5) rfl _ (zeroF _) ?_; intro f hg_f w4 hb_f hk_f; have Hg_f := Aside0.mk hg_f; clear hg_f)
    | ((with_reducible refine gate_dst (N := 6) rfl ?_); refine al_ev rfl rfl (N := 6) rfl _ (zeroR _) ?_; intro p hg_p w5 hb_p hk_p; have Hg_p := Aside0.mk hg_p; clear hg_p)
    | (((with_reducible refine gate_store (t := 31) (p := 5) rfl ?_); refine st_ev rfl rfl rfl f (S.cells) _ _ rfl rfl (((Bk.mk hb_f).kp hk_p (fun h => h)).blk) infoF rfl (VS.one _) ?_; intro w6 hs_w6 ks_w6); have hpf : p ≠ f := (by have := Hg_p.out; have := blk_lt hb_f; omega); have hP6 := (Bk.mk hb_p).kp ks_w6 hpf)
    | (((with_reducible refine gate_store (t := 34) (p := 6) rfl ?_); refine st_ev rfl rfl rfl p (R.cells) _ _ rfl rfl (hP6.blk) infoR rfl (VS.one _) ?_; intro w7 hs_w7 ks_w7); have hI : St FT w7 f S := (St.mk hs_w6).kp ks_w7 (fun e : f = p => hpf e.symm); have hP : St RT w7 p R := St.mk hs_w7; have hfw : w.heap.size ≤ f := (by have := Hg_f.out; have := ((hk_g.trans hk2).trans hk3).size; omega); have hpw : w.heap.size ≤ p := (by have := Hg_p.out; have := (((hk_g.trans hk2).trans hk3).trans hk_f).size; omega); have K7 : KpN w w7 := ((((((hk_g.trans hk2).trans hk3).trans hk_f).trans hk_p).then ks_w6 fun i hi (e : i = f) => by omega).then ks_w7 fun i hi (e : i = p) => by omega); clear hb_g hk_g Hg_g hk2 hG2 hC2 hk3 hb_f hk_f Hg_f hb_p hk_p Hg_p hs_w6 ks_w6 hP6 hs_w7 ks_w7))
  refine (X1.out f _ hI).mono ?_
  rintro e w8 ⟨rfl, hI8, k8⟩
  have hP8 := hP.kp k8 hpf
  have K8 : KpN w w8 := K7.then k8 fun i hi (e : i = f) => by omega
  clear hI hP k8 K7
  go_wp2_with (first
    | ((with_reducible refine gate_dst (N := 34) rfl ?_); refine wpList_load_row rfl 34 _ rfl p rfl _ (R.cells) (0, 0) _ (hP8.blk) Try.underlying34 rfl infoR ?_)
    | (go_at_call 22; refine (X2.out _).mono ?_; rintro e wb ⟨rfl, kb⟩; have hIb := hI8.kp kb (fun h => h); have Kb := K8.trans kb)
    | ((with_reducible refine gate_dst (N := 10) rfl ?_); refine al_ev rfl rfl (N := 10) rfl _ (zeroR _) ?_; intro o hg_o wc hb_o hk_o; have Hg_o := Aside0.mk hg_o; clear hg_o)
    | (((with_reducible refine gate_store (t := 34) (p := 10) rfl ?_); refine st_ev rfl rfl rfl o (R2.cells) _ _ rfl rfl (hb_o) infoR rfl (VS.one _) ?_; intro wd hs_wd ks_wd); have hId := (hIb.kp hk_o (fun h => h)).kp ks_wd (fun e : f = o => by have := Hg_o.out; have := hIb.lt; omega); have how : w.heap.size ≤ o := (by have := Hg_o.out; have := Kb.size; omega); have Kd : KpN w wd := ((Kb.trans hk_o).then ks_wd fun i hi (e : i = o) => by omega))
    | ((with_reducible refine gate_dst (N := 48) rfl ?_); refine wpList_in (by rfl) (wp_load_row 31 _ rfl f rfl _ (S2.cells) (0, 0) _ (hId.blk) Try.underlying31 rfl infoF ?_))
    | ((with_reducible refine gate_dst (N := 49) rfl ?_); refine wpList_in (by rfl) (wp_load_row 34 _ rfl o rfl _ (R2.cells) (0, 0) _ (hs_wd) Try.underlying34 rfl infoR ?_))
    | (go_at_call 14; refine (SM2.out _).mono ?_; rintro e we ⟨rfl, ke⟩))
  go_ret
  exact ⟨rfl, (Kd.trans ke).below (fun _ _ h => h.elim) (Nat.le_refl _)⟩
set_option maxHeartbeats 8000000 in
set_option maxRecDepth 100000 in
theorem tretM_no (m : Int) (A : Option Addr) (c : Nat) (l : Nat) (xs : List WR)  (w : World) (hC : Kd.C k68 w A xs.length xs) (hb : ¬ bgOk m xs.length) :
    Calls Try.prog 6 #[.agg (startC m A xs.length c (l : Int)), .bool false] w fun e w' => e = .returned (.bool true) ∧ Below w.heap.size w w' := by
  have Hb := Aside0.mk hb
  clear hb
  go_enter Try.func6, Try.ntmps6
  go_wp2_with (first
    | ((with_reducible refine gate_dst (N := 2) rfl ?_); refine bx_ev rfl rfl (N := 2) rfl (startC m A xs.length c (l : Int)) rfl ?_; intro g hg_g w1 hb_g hk_g; have Hg_g := Aside0.mk hg_g; clear hg_g)
    | (go_at_call 9; refine (awake9_c _).mono ?_; rintro e w2 ⟨rfl, hk2⟩; have hG2 := (Bk.mk hb_g).kp hk2 (fun h => h); have hC2 : Kd.C k68 w2 A xs.length xs := Kd.C_below hC ((hk_g.trans hk2).below (fun _ _ h => h.elim) (Nat.le_refl _)))
    | ((with_reducible refine gate_dst (N := 21) rfl ?_); refine wpList_load_row rfl 25 _ rfl g rfl _ (startC m A xs.length c (l : Int)) (0, 0) _ (hG2.blk) Try.underlying25 rfl infoS ?_)
    | (go_at_call 10; refine ((begun_no m A c l xs _ Hb.out)).mono ?_; rintro e w3 ⟨rfl, hk3⟩)
    | ((with_reducible refine gate_dst (N := 5) rfl ?_); refine al_ev rfl rfl (N := 5) rfl _ (zeroF _) ?_; intro f hg_f w4 hb_f hk_f; have Hg_f := Aside0.mk hg_f; clear hg_f)
    | ((with_reducible refine gate_dst (N := 6) rfl ?_); refine al_ev rfl rfl (N := 6) rfl _ (zeroR _) ?_; intro p hg_p w5 hb_p hk_p; have Hg_p := Aside0.mk hg_p; clear hg_p)
    | (((with_reducible refine gate_store (t := 31) (p := 5) rfl ?_); refine st_ev rfl rfl rfl f (vs0.cells) _ _ rfl rfl (((Bk.mk hb_f).kp hk_p (fun h => h)).blk) infoF rfl (VS.one _) ?_; intro w6 hs_w6 ks_w6); have hpf : p ≠ f := (by have := Hg_p.out; have := blk_lt hb_f; omega); have hP6 := (Bk.mk hb_p).kp ks_w6 hpf)
    | (((with_reducible refine gate_store (t := 34) (p := 6) rfl ?_); refine st_ev rfl rfl rfl p (vs0.cells) _ _ rfl rfl (hP6.blk) infoR rfl (VS.one _) ?_; intro w7 hs_w7 ks_w7); have hI : St FT w7 f vs0 := (St.mk hs_w6).kp ks_w7 (fun e : f = p => hpf e.symm); have hP : St RT w7 p vs0 := St.mk hs_w7; have hfw : w.heap.size ≤ f := (by have := Hg_f.out; have := ((hk_g.trans hk2).trans hk3).size; omega); have hpw : w.heap.size ≤ p := (by have := Hg_p.out; have := (((hk_g.trans hk2).trans hk3).trans hk_f).size; omega); have K7 : KpN w w7 := ((((((hk_g.trans hk2).trans hk3).trans hk_f).trans hk_p).then ks_w6 fun i hi (e : i = f) => by omega).then ks_w7 fun i hi (e : i = p) => by omega); clear hb_g hk_g Hg_g hk2 hG2 hC2 hk3 hb_f hk_f Hg_f hb_p hk_p Hg_p hs_w6 ks_w6 hP6 hs_w7 ks_w7))
  go_ret
  exact ⟨rfl, K7.below (fun _ _ h => h.elim) (Nat.le_refl _)⟩
set_option maxHeartbeats 8000000 in
set_option maxRecDepth 100000 in
theorem tretM_yes (m : Int) (A : Option Addr) (c : Nat) (l : Nat) (xs : List WR)  (w : World) (hC : Kd.C k68 w A xs.length xs) (hx : wrOk xs) (hl : U l) (hb : bgOk m xs.length) :
    Calls Try.prog 6 #[.agg (startC m A xs.length c (l : Int)), .bool false] w fun e w' => e = .returned (.bool true) ∧ Below w.heap.size w w' := by
  have Hb := Aside0.mk hb
  have hRel := Rel.bg hx m l
  have hF : (bgF m xs l).ok := bgF_ok hx hl m
  have hR : (bgR m xs l).ok := bgR_ok hx hl m
  obtain ⟨S, hS⟩ : ∃ S, bgF m xs l = S := ⟨_, rfl⟩
  obtain ⟨R, hRR⟩ : ∃ R, bgR m xs l = R := ⟨_, rfl⟩
  have hmS : S.m = m := by rw [← hS]; rfl
  rw [hS] at hF hRel
  rw [hRR] at hR hRel
  have by_ := fun w hC => begun_yes m A c l xs w Hb.out hC hx hl
  rw [hS, hRR] at by_
  have By := Aside0.mk by_
  have HmS := Aside0.mk hmS
  have hS0 := hS
  have hRR0 := hRR
  clear by_ hS hRR hb hmS
  have hMo := (bg_mode (xs := xs) (l := l) Hb.out)
  rw [hS0, hRR0] at hMo
  have em : R.m = S.m := hRel.m.symm
  have e10 : R.r 10 = S.r 10 := (hRel.r 9 (by decide)).symm
  have hr2 : Rel (if S.m = 3 then mretS S else S) (if S.m = 3 then rmretS R (mppW R) else R) := by
    split
    · exact hRel.mret hF _ hRel.mpp
    · exact hRel
  have x1 := fun (g : Nat) W h => mret_c g S W h hF
  have x2 := fun W => rmret_c R W hR
  rw [em, e10] at x2
  generalize (if S.m = 3 then mretS S else S) = S2 at x1 hr2
  generalize (if S.m = 3 then rmretS R (mppW R) else R) = R2 at x2 hr2
  generalize (if S.m = 3 then S.r 10 else 0) = r at x1 x2
  generalize decide (S.m = 3) = b at x1 x2
  clear em e10
  have X1 := Aside0.mk x1
  have X2 := Aside0.mk x2
  have SM2 : Aside0 (∀ W, Calls Try.prog 14 #[.agg S2.cells, .agg R2.cells] W fun e w' => e = .returned (.bool true) ∧ KpN W w') := ⟨fun W => by
    have := same_c S2 R2 W; rw [hr2.same] at this; exact this⟩
  clear x1 x2 hr2 hMo hS0 hRR0
  go_enter Try.func6, Try.ntmps6
  go_wp2_with (first
    | ((with_reducible refine gate_dst (N := 2) rfl ?_); refine bx_ev rfl rfl (N := 2) rfl (startC m A xs.length c (l : Int)) rfl ?_; intro g hg_g w1 hb_g hk_g; have Hg_g := Aside0.mk hg_g; clear hg_g)
    | (go_at_call 9; refine (awake9_c _).mono ?_; rintro e w2 ⟨rfl, hk2⟩; have hG2 := (Bk.mk hb_g).kp hk2 (fun h => h); have hC2 : Kd.C k68 w2 A xs.length xs := Kd.C_below hC ((hk_g.trans hk2).below (fun _ _ h => h.elim) (Nat.le_refl _)))
    | ((with_reducible refine gate_dst (N := 21) rfl ?_); refine wpList_load_row rfl 25 _ rfl g rfl _ (startC m A xs.length c (l : Int)) (0, 0) _ (hG2.blk) Try.underlying25 rfl infoS ?_)
    | (go_at_call 10; refine ((By.out _ hC2)).mono ?_; rintro e w3 ⟨rfl, hk3⟩)
    | ((with_reducible refine gate_dst (N := 5) rfl ?_); refine al_ev rfl rfl (N := 5) rfl _ (zeroF _) ?_; intro f hg_f w4 hb_f hk_f; have Hg_f := Aside0.mk hg_f; clear hg_f)
    | ((with_reducible refine gate_dst (N := 6) rfl ?_); refine al_ev rfl rfl (N := 6) rfl _ (zeroR _) ?_; intro p hg_p w5 hb_p hk_p; have Hg_p := Aside0.mk hg_p; clear hg_p)
    | (((with_reducible refine gate_store (t := 31) (p := 5) rfl ?_); refine st_ev rfl rfl rfl f (S.cells) _ _ rfl rfl (((Bk.mk hb_f).kp hk_p (fun h => h)).blk) infoF rfl (VS.one _) ?_; intro w6 hs_w6 ks_w6); have hpf : p ≠ f := (by have := Hg_p.out; have := blk_lt hb_f; omega); have hP6 := (Bk.mk hb_p).kp ks_w6 hpf)
    | (((with_reducible refine gate_store (t := 34) (p := 6) rfl ?_); refine st_ev rfl rfl rfl p (R.cells) _ _ rfl rfl (hP6.blk) infoR rfl (VS.one _) ?_; intro w7 hs_w7 ks_w7); have hI : St FT w7 f S := (St.mk hs_w6).kp ks_w7 (fun e : f = p => hpf e.symm); have hP : St RT w7 p R := St.mk hs_w7; have hfw : w.heap.size ≤ f := (by have := Hg_f.out; have := ((hk_g.trans hk2).trans hk3).size; omega); have hpw : w.heap.size ≤ p := (by have := Hg_p.out; have := (((hk_g.trans hk2).trans hk3).trans hk_f).size; omega); have K7 : KpN w w7 := ((((((hk_g.trans hk2).trans hk3).trans hk_f).trans hk_p).then ks_w6 fun i hi (e : i = f) => by omega).then ks_w7 fun i hi (e : i = p) => by omega); clear hb_g hk_g Hg_g hk2 hG2 hC2 hk3 hb_f hk_f Hg_f hb_p hk_p Hg_p hs_w6 ks_w6 hP6 hs_w7 ks_w7))
  refine (X1.out f _ hI).mono ?_
  rintro e w8 ⟨rfl, hI8, k8⟩
  have hP8 := hP.kp k8 hpf
  have K8 : KpN w w8 := K7.then k8 fun i hi (e : i = f) => by omega
  clear hI hP k8 K7
  go_wp2_with (first
    | ((with_reducible refine gate_dst (N := 57) rfl ?_); refine wpList_load_row rfl 34 _ rfl p rfl _ (R.cells) (0, 0) _ (hP8.blk) Try.underlying34 rfl infoR ?_)
    | (go_at_call 24; refine (X2.out _).mono ?_; rintro e wb ⟨rfl, kb⟩; have hIb := hI8.kp kb (fun h => h); have Kb := K8.trans kb)
    | ((with_reducible refine gate_dst (N := 15) rfl ?_); refine al_ev rfl rfl (N := 15) rfl _ (zeroR _) ?_; intro o hg_o wc hb_o hk_o; have Hg_o := Aside0.mk hg_o; clear hg_o)
    | (((with_reducible refine gate_store (t := 34) (p := 15) rfl ?_); refine st_ev rfl rfl rfl o (R2.cells) _ _ rfl rfl (hb_o) infoR rfl (VS.one _) ?_; intro wd hs_wd ks_wd); have hId := (hIb.kp hk_o (fun h => h)).kp ks_wd (fun e : f = o => by have := Hg_o.out; have := hIb.lt; omega); have how : w.heap.size ≤ o := (by have := Hg_o.out; have := Kb.size; omega); have Kd : KpN w wd := ((Kb.trans hk_o).then ks_wd fun i hi (e : i = o) => by omega))
    | ((with_reducible refine gate_dst (N := 71) rfl ?_); refine wpList_in (by rfl) (wp_load_row 31 _ rfl f rfl _ (S2.cells) (0, 0) _ (hId.blk) Try.underlying31 rfl infoF ?_))
    | ((with_reducible refine gate_dst (N := 72) rfl ?_); refine wpList_in (by rfl) (wp_load_row 34 _ rfl o rfl _ (R2.cells) (0, 0) _ (hs_wd) Try.underlying34 rfl infoR ?_))
    | (go_at_call 14; refine (SM2.out _).mono ?_; rintro e we ⟨rfl, ke⟩))
  go_ret
  exact ⟨rfl, (Kd.trans ke).below (fun _ _ h => h.elim) (Nat.le_refl _)⟩
theorem tret_no (m : Int) (A : Option Addr) (c : Nat) (l : Nat) (xs : List WR) (b : Bool) (w : World) (hC : Kd.C k68 w A xs.length xs) (hb : ¬ bgOk m xs.length) :
    Calls Try.prog 6 #[.agg (startC m A xs.length c (l : Int)), .bool b] w fun e w' => e = .returned (.bool true) ∧ Below w.heap.size w w' := by
  cases b
  · exact tretM_no m A c l xs w hC hb
  · exact tretS_no m A c l xs w hC hb
theorem tret_yes (m : Int) (A : Option Addr) (c : Nat) (l : Nat) (xs : List WR) (b : Bool) (w : World) (hC : Kd.C k68 w A xs.length xs) (hx : wrOk xs) (hl : U l) (hb : bgOk m xs.length) :
    Calls Try.prog 6 #[.agg (startC m A xs.length c (l : Int)), .bool b] w fun e w' => e = .returned (.bool true) ∧ Below w.heap.size w w' := by
  cases b
  · exact tretM_yes m A c l xs w hC hx hl hb
  · exact tretS_yes m A c l xs w hC hx hl hb
end Go.Proofs.Ytnknfepbekaobaa.H
