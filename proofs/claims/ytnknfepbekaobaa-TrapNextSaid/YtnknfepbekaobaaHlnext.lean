/- TrapNext, walked by hand: which interrupt is to be taken. -/
import Derived.Test.YtnknfepbekaobaaTd
namespace Go.Proofs.Ytnknfepbekaobaa.H
open Go.RowKit Go.Proofs.YtnknfepbekaobaaW.PrintWords Go.Proofs.YtnknfepbekaobaaW.PrintLast Go.Proofs.Ytnknfepbekaobaa.PAl Go.Proofs.Ytnknfepbekaobaa.Pure Go.Proofs.Ytnknfepbekaobaa.Vw
set_option linter.unusedVariables false
set_option linter.unusedSimpArgs false
open Go.Sort
set_option maxHeartbeats 8000000 in
set_option maxRecDepth 100000 in
theorem tnext_no (m : Int) (A : Option Addr) (c : Nat) (l : Nat) (xs : List WR)  (w : World) (hC : Kd.C k68 w A xs.length xs) (hb : ¬ bgOk m xs.length) :
    Calls Try.prog 4 #[.agg (startC m A xs.length c (l : Int))] w fun e w' => e = .returned (.bool true) ∧ Below w.heap.size w w' := by
  have Hb := Aside0.mk hb
  clear hb
  go_enter Try.func4, Try.ntmps4
  go_wp2_with (first
    | ((with_reducible refine gate_dst (N := 1) rfl ?_); refine bx_ev rfl rfl (N := 1) rfl (startC m A xs.length c (l : Int)) rfl ?_; intro g hg_g w1 hb_g hk_g; have Hg_g := Aside0.mk hg_g; clear hg_g)
    | (go_at_call 9; refine (awake9_c _).mono ?_; rintro e w2 ⟨rfl, hk2⟩; have hG2 := (Bk.mk hb_g).kp hk2 (fun h => h); have hC2 : Kd.C k68 w2 A xs.length xs := Kd.C_below hC ((hk_g.trans hk2).below (fun _ _ h => h.elim) (Nat.le_refl _)))
    | ((with_reducible refine gate_dst (N := 13) rfl ?_); refine wpList_load_row rfl 25 _ rfl g rfl _ (startC m A xs.length c (l : Int)) (0, 0) _ (hG2.blk) Try.underlying25 rfl infoS ?_)
    | (go_at_call 10; refine ((begun_no m A c l xs _ Hb.out)).mono ?_; rintro e w3 ⟨rfl, hk3⟩)
    | ((with_reducible refine gate_dst (N := 3) rfl ?_); refine al_ev rfl rfl (N := 3) rfl _ (zeroF _) ?_; intro f hg_f w4 hb_f hk_f; have Hg_f := Aside0.mk hg_f; clear hg_f)
    | ((with_reducible refine gate_dst (N := 4) rfl ?_); refine al_ev rfl rfl (N := 4) rfl _ (zeroR _) ?_; intro p hg_p w5 hb_p hk_p; have Hg_p := Aside0.mk hg_p; clear hg_p)
    | (((with_reducible refine gate_store (t := 31) (p := 3) rfl ?_); refine st_ev rfl rfl rfl f (vs0.cells) _ _ rfl rfl (((Bk.mk hb_f).kp hk_p (fun h => h)).blk) infoF rfl (VS.one _) ?_; intro w6 hs_w6 ks_w6); have hpf : p ≠ f := (by have := Hg_p.out; have := blk_lt hb_f; omega); have hP6 := (Bk.mk hb_p).kp ks_w6 hpf)
    | (((with_reducible refine gate_store (t := 34) (p := 4) rfl ?_); refine st_ev rfl rfl rfl p (vs0.cells) _ _ rfl rfl (hP6.blk) infoR rfl (VS.one _) ?_; intro w7 hs_w7 ks_w7); have hI : St FT w7 f vs0 := (St.mk hs_w6).kp ks_w7 (fun e : f = p => hpf e.symm); have hP : St RT w7 p vs0 := St.mk hs_w7; have hfw : w.heap.size ≤ f := (by have := Hg_f.out; have := ((hk_g.trans hk2).trans hk3).size; omega); have hpw : w.heap.size ≤ p := (by have := Hg_p.out; have := (((hk_g.trans hk2).trans hk3).trans hk_f).size; omega); have K7 : KpN w w7 := ((((((hk_g.trans hk2).trans hk3).trans hk_f).trans hk_p).then ks_w6 fun i hi (e : i = f) => by omega).then ks_w7 fun i hi (e : i = p) => by omega); clear hb_g hk_g Hg_g hk2 hG2 hC2 hk3 hb_f hk_f Hg_f hb_p hk_p Hg_p hs_w6 ks_w6 hP6 hs_w7 ks_w7))
  go_ret
  exact ⟨rfl, K7.below (fun _ _ h => h.elim) (Nat.le_refl _)⟩
set_option maxHeartbeats 8000000 in
set_option maxRecDepth 100000 in
theorem tnext_yes (m : Int) (A : Option Addr) (c : Nat) (l : Nat) (xs : List WR)  (w : World) (hC : Kd.C k68 w A xs.length xs) (hx : wrOk xs) (hl : U l) (hb : bgOk m xs.length) :
    Calls Try.prog 4 #[.agg (startC m A xs.length c (l : Int))] w fun e w' => e = .returned (.bool true) ∧ Below w.heap.size w w' := by
  have Hb := Aside0.mk hb
  have hRel := Rel.bg hx m l
  have hF : (bgF m xs l).ok := bgF_ok hx hl m
  have hR : (bgR m xs l).ok := bgR_ok hx hl m
  obtain ⟨S, hS⟩ : ∃ S, bgF m xs l = S := ⟨_, rfl⟩
  obtain ⟨R, hRR⟩ : ∃ R, bgR m xs l = R := ⟨_, rfl⟩
  have hmS : S.m = m := by rw [← hS]; rfl
  rw [hS] at hF hRel
  rw [hRR] at hR hRel
  have by_ := fun w hC => begun_yes m A c l xs w Hb.out hC hx hl
  rw [hS, hRR] at by_
  have By := Aside0.mk by_
  have HmS := Aside0.mk hmS
  have hS0 := hS
  have hRR0 := hRR
  clear by_ hS hRR hb hmS
  have hMo := (bg_mode (xs := xs) (l := l) Hb.out)
  rw [hS0, hRR0] at hMo
  have hn := hRel.next
  obtain ⟨k, B, hC⟩ : ∃ (k : Int) (B : Bool), nC (nextN S) = trapC k 0 B ∧ decide (0 ≤ nextN S) = B := by
    by_cases q : nextN S < 0
    · exact ⟨0, false, nC_no q, decide_eq_false (by omega)⟩
    · exact ⟨nextN S, true, nC_yes (by omega), decide_eq_true (by omega)⟩
  have N1 : Aside0 (∀ (g : Nat) W, St FT W g S → Calls Try.prog 17 #[.pointer (some ⟨g, 0, none⟩)] W fun e w' => e = .returned (.tuple #[.agg (trapC k 0 B), .bool B]) ∧ KpN W w') := ⟨fun g W h => by
    have := next_c g S W h hF hMo.1; rw [nextC_eq, show nextB S = decide (0 ≤ nextN S) from rfl, hC.1, hC.2] at this; exact this⟩
  have N2 : Aside0 (∀ W, Calls Try.prog 18 #[.agg R.cells] W fun e w' => e = .returned (.tuple #[.agg (trapC k 0 B), .bool B]) ∧ KpN W w') := ⟨fun W => by
    have := rnext_c R W hR hMo.2; rw [← hn, hC.1, hC.2] at this; exact this⟩
  have SM : Aside0 (∀ W, Calls Try.prog 14 #[.agg S.cells, .agg R.cells] W fun e w' => e = .returned (.bool true) ∧ KpN W w') := ⟨fun W => by
    have := same_c S R W; rw [hRel.same] at this; exact this⟩
  clear hn hC hMo hS0 hRR0
  go_enter Try.func4, Try.ntmps4
  go_wp2_with (first
    | ((with_reducible refine gate_dst (N := 1) rfl ?_); refine bx_ev rfl rfl (N := 1) rfl (startC m A xs.length c (l : Int)) rfl ?_; intro g hg_g w1 hb_g hk_g; have Hg_g := Aside0.mk hg_g; clear hg_g)
    | (go_at_call 9; refine (awake9_c _).mono ?_; rintro e w2 ⟨rfl, hk2⟩; have hG2 := (Bk.mk hb_g).kp hk2 (fun h => h); have hC2 : Kd.C k68 w2 A xs.length xs := Kd.C_below hC ((hk_g.trans hk2).below (fun _ _ h => h.elim) (Nat.le_refl _)))
    | ((with_reducible refine gate_dst (N := 13) rfl ?_); refine wpList_load_row rfl 25 _ rfl g rfl _ (startC m A xs.length c (l : Int)) (0, 0) _ (hG2.blk) Try.underlying25 rfl infoS ?_)
    | (go_at_call 10; refine ((By.out _ hC2)).mono ?_; rintro e w3 ⟨rfl, hk3⟩)
    | ((with_reducible refine gate_dst (N := 3) rfl ?_); refine al_ev rfl rfl (N := 3) rfl _ (zeroF _) ?_; intro f hg_f w4 hb_f hk_f; have Hg_f := Aside0.mk hg_f; clear hg_f)
    | ((with_reducible refine gate_dst (N := 4) rfl ?_); refine al_ev rfl rfl (N := 4) rfl _ (zeroR _) ?_; intro p hg_p w5 hb_p hk_p; have Hg_p := Aside0.mk hg_p; clear hg_p)
    | (((with_reducible refine gate_store (t := 31) (p := 3) rfl ?_); refine st_ev rfl rfl rfl f (S.cells) _ _ rfl rfl (((Bk.mk hb_f).kp hk_p (fun h => h)).blk) infoF rfl (VS.one _) ?_; intro w6 hs_w6 ks_w6); have hpf : p ≠ f := (by have := Hg_p.out; have := blk_lt hb_f; omega); have hP6 := (Bk.mk hb_p).kp ks_w6 hpf)
    | (((with_reducible refine gate_store (t := 34) (p := 4) rfl ?_); refine st_ev rfl rfl rfl p (R.cells) _ _ rfl rfl (hP6.blk) infoR rfl (VS.one _) ?_; intro w7 hs_w7 ks_w7); have hI : St FT w7 f S := (St.mk hs_w6).kp ks_w7 (fun e : f = p => hpf e.symm); have hP : St RT w7 p R := St.mk hs_w7; have hfw : w.heap.size ≤ f := (by have := Hg_f.out; have := ((hk_g.trans hk2).trans hk3).size; omega); have hpw : w.heap.size ≤ p := (by have := Hg_p.out; have := (((hk_g.trans hk2).trans hk3).trans hk_f).size; omega); have K7 : KpN w w7 := ((((((hk_g.trans hk2).trans hk3).trans hk_f).trans hk_p).then ks_w6 fun i hi (e : i = f) => by omega).then ks_w7 fun i hi (e : i = p) => by omega); clear hb_g hk_g Hg_g hk2 hG2 hC2 hk3 hb_f hk_f Hg_f hb_p hk_p Hg_p hs_w6 ks_w6 hP6 hs_w7 ks_w7))
  refine (N1.out f _ hI).mono ?_
  rintro e w8 ⟨rfl, k8⟩
  have hI8 := hI.kp k8 (fun h => h)
  have hP8 := hP.kp k8 (fun h => h)
  have K8 := K7.trans k8
  clear hI hP k8 K7
  go_wp2_with (first
    | ((with_reducible refine gate_dst (N := 6) rfl ?_); refine al_ev rfl rfl (N := 6) rfl _ (zeroT _) ?_; intro a hg_a w9 hb_a hk_a; have Hg_a := Aside0.mk hg_a; clear hg_a)
    | (((with_reducible refine gate_store (t := 27) (p := 6) rfl ?_); refine st_ev rfl rfl rfl a (trapC k 0 B) _ _ rfl rfl (hb_a) infoT rfl (trapC_one _ _ _) ?_; intro wa hs_wa ks_wa); have hPa := (hP8.kp hk_a (fun h => h)).kp ks_wa (fun e : p = a => by have := Hg_a.out; have := hP8.lt; omega); have hIa := (hI8.kp hk_a (fun h => h)).kp ks_wa (fun e : f = a => by have := Hg_a.out; have := hI8.lt; omega); have hwa : w.heap.size ≤ a := (by have := Hg_a.out; have := K8.size; omega); have Ka : KpN w wa := (K8.trans hk_a).then ks_wa fun i hi (e : i = a) => by omega)
    | ((with_reducible refine gate_dst (N := 25) rfl ?_); refine wpList_load_row rfl 34 _ rfl p rfl _ (R.cells) (0, 0) _ (hPa.blk) Try.underlying34 rfl infoR ?_))
  refine (N2.out _).mono ?_
  rintro e wb ⟨rfl, kb⟩
  have hIb := hIa.kp kb (fun h => h)
  have hPb := hPa.kp kb (fun h => h)
  have hAb := (Bk.mk hs_wa).kp kb (fun h => h)
  have Kb := Ka.trans kb
  clear hI8 hP8 K8 hb_a hk_a Hg_a hs_wa ks_wa hIa hPa Ka kb
  have hIB := hIb
  go_wp2_with (first
    | ((with_reducible refine gate_dst (N := 8) rfl ?_); refine al_ev rfl rfl (N := 8) rfl _ (zeroT _) ?_; intro c hg_c wc hb_c hk_c; have Hg_c := Aside0.mk hg_c; clear hg_c)
    | (((with_reducible refine gate_store (t := 27) (p := 8) rfl ?_); refine st_ev rfl rfl rfl c (trapC k 0 B) _ _ rfl rfl (hb_c) infoT rfl (trapC_one _ _ _) ?_; intro wd hs_wd ks_wd); have hca : a ≠ c := (by have := Hg_c.out; have := blk_lt hAb.blk; omega); have hAd := (hAb.kp hk_c (fun h => h)).kp ks_wd hca; have hCd := Bk.mk hs_wd; have hPd := (hPb.kp hk_c (fun h => h)).kp ks_wd (fun e : p = c => by have := Hg_c.out; have := hPb.lt; omega); have hId := (hIB.kp hk_c (fun h => h)).kp ks_wd (fun e : f = c => by have := Hg_c.out; have := hIB.lt; omega); have hwc : w.heap.size ≤ c := (by have := Hg_c.out; have := Kb.size; omega); have Kd : KpN w wd := (Kb.trans hk_c).then ks_wd fun i hi (e : i = c) => by omega)
    | ((with_reducible refine gate_dst (N := 29) rfl ?_); refine wpList_load_row rfl 27 _ rfl a rfl _ (trapC k 0 B) (0, 0) _ (hAd.blk) Try.underlying27 rfl infoT ?_)
    | ((with_reducible refine gate_dst (N := 30) rfl ?_); refine wpList_load_row rfl 27 _ rfl c rfl _ (trapC k 0 B) (0, 0) _ (hCd.blk) Try.underlying27 rfl infoT ?_)
    | ((with_reducible refine gate_dst (N := 38) rfl ?_); refine wpList_in (by rfl) (wp_load_row 31 _ rfl f rfl _ (S.cells) (0, 0) _ (hId.blk) Try.underlying31 rfl infoF ?_))
    | ((with_reducible refine gate_dst (N := 39) rfl ?_); refine wpList_in (by rfl) (wp_load_row 34 _ rfl p rfl _ (R.cells) (0, 0) _ (hPd.blk) Try.underlying34 rfl infoR ?_))
    | (go_at_call 14; refine (SM.out _).mono ?_; rintro e we ⟨rfl, ke⟩))
  go_ret
  exact ⟨rfl, (Kd.trans ke).below (fun _ _ h => h.elim) (Nat.le_refl _)⟩
end Go.Proofs.Ytnknfepbekaobaa.H
