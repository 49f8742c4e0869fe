/- TrapMasks, walked by hand: no interrupt that is not pending or not allowed. -/
import Derived.Test.YtnknfepbekaobaaTd
namespace Go.Proofs.Ytnknfepbekaobaa.H
open Go.RowKit Go.Proofs.YtnknfepbekaobaaW.PrintWords Go.Proofs.YtnknfepbekaobaaW.PrintLast Go.Proofs.Ytnknfepbekaobaa.PAl Go.Proofs.Ytnknfepbekaobaa.Pure Go.Proofs.Ytnknfepbekaobaa.Vw
set_option linter.unusedVariables false
set_option linter.unusedSimpArgs false
open Go.Sort
theorem shr_bit {x n : Nat} (hx : U x) (h : x / 2 ^ n % 2 = 1) : Go.bits .and .u64 ((x : Int) / 2 ^ n) 1 = 1 := by
  have e : ((x : Int) / 2 ^ n) = ((x / 2 ^ n : Nat) : Int) := by simp
  have hu : U (x / 2 ^ n) := ⟨Nat.lt_of_le_of_lt (Nat.div_le_self _ _) hx.lt⟩
  rw [e]
  have := and_l (n := 1) hu
  rw [Nat.and_one_is_mod, h] at this
  exact this
theorem mask_bit {x n : Nat} (hx : U x) (hn : n < 64) (h : bitW x (n : Int) = true) : x / 2 ^ n % 2 = 1 := by
  unfold bitW at h
  rw [Int.toNat_natCast, Bool.and_eq_true] at h
  have := h.2
  rw [Nat.testBit_eq_decide_div_mod_eq] at this
  exact of_decide_eq_true this
set_option maxHeartbeats 8000000 in
set_option maxRecDepth 100000 in
theorem tmask_no (m : Int) (A : Option Addr) (c : Nat) (l : Nat) (xs : List WR)  (w : World) (hC : Kd.C k68 w A xs.length xs) (hb : ¬ bgOk m xs.length) :
    Calls Try.prog 5 #[.agg (startC m A xs.length c (l : Int))] w fun e w' => e = .returned (.bool true) ∧ Below w.heap.size w w' := by
  have Hb := Aside0.mk hb
  clear hb
  go_enter Try.func5, Try.ntmps5
  go_wp2_with (first
    | ((with_reducible refine gate_dst (N := 1) rfl ?_); refine bx_ev rfl rfl (N := 1) rfl (startC m A xs.length c (l : Int)) rfl ?_; intro g hg_g w1 hb_g hk_g; have Hg_g := Aside0.mk hg_g; clear hg_g)
    | (go_at_call 9; refine (awake9_c _).mono ?_; rintro e w2 ⟨rfl, hk2⟩; have hG2 := (Bk.mk hb_g).kp hk2 (fun h => h); have hC2 : Kd.C k68 w2 A xs.length xs := Kd.C_below hC ((hk_g.trans hk2).below (fun _ _ h => h.elim) (Nat.le_refl _)))
    | ((with_reducible refine gate_dst (N := 14) rfl ?_); refine wpList_load_row rfl 25 _ rfl g rfl _ (startC m A xs.length c (l : Int)) (0, 0) _ (hG2.blk) Try.underlying25 rfl infoS ?_)
    | (go_at_call 10; refine ((begun_no m A c l xs _ Hb.out)).mono ?_; rintro e w3 ⟨rfl, hk3⟩)
    | ((with_reducible refine gate_dst (N := 3) rfl ?_); refine al_ev rfl rfl (N := 3) rfl _ (zeroF _) ?_; intro f hg_f w4 hb_f hk_f; have Hg_f := Aside0.mk hg_f; clear hg_f)
    | ((with_reducible refine gate_dst (N := 4) rfl ?_); refine al_ev rfl rfl (N := 4) rfl _ (zeroR _) ?_; intro p hg_p w5 hb_p hk_p; have Hg_p := Aside0.mk hg_p; clear hg_p)
    | (((with_reducible refine gate_store (t := 31) (p := 3) rfl ?_); refine st_ev rfl rfl rfl f (vs0.cells) _ _ rfl rfl (((Bk.mk hb_f).kp hk_p (fun h => h)).blk) infoF rfl (VS.one _) ?_; intro w6 hs_w6 ks_w6); have hpf : p ≠ f := (by have := Hg_p.out; have := blk_lt hb_f; omega); have hP6 := (Bk.mk hb_p).kp ks_w6 hpf)
    | (((with_reducible refine gate_store (t := 34) (p := 4) rfl ?_); refine st_ev rfl rfl rfl p (vs0.cells) _ _ rfl rfl (hP6.blk) infoR rfl (VS.one _) ?_; intro w7 hs_w7 ks_w7); have hI : St FT w7 f vs0 := (St.mk hs_w6).kp ks_w7 (fun e : f = p => hpf e.symm); have hP : St RT w7 p vs0 := St.mk hs_w7; have hfw : w.heap.size ≤ f := (by have := Hg_f.out; have := ((hk_g.trans hk2).trans hk3).size; omega); have hpw : w.heap.size ≤ p := (by have := Hg_p.out; have := (((hk_g.trans hk2).trans hk3).trans hk_f).size; omega); have K7 : KpN w w7 := ((((((hk_g.trans hk2).trans hk3).trans hk_f).trans hk_p).then ks_w6 fun i hi (e : i = f) => by omega).then ks_w7 fun i hi (e : i = p) => by omega); clear hb_g hk_g Hg_g hk2 hG2 hC2 hk3 hb_f hk_f Hg_f hb_p hk_p Hg_p hs_w6 ks_w6 hP6 hs_w7 ks_w7))
  go_ret
  exact ⟨rfl, K7.below (fun _ _ h => h.elim) (Nat.le_refl _)⟩
set_option maxHeartbeats 8000000 in
set_option maxRecDepth 100000 in
theorem tmaskA_yes (m : Int) (A : Option Addr) (c : Nat) (l : Nat) (xs : List WR)  (w : World) (hC : Kd.C k68 w A xs.length xs) (hx : wrOk xs) (hl : U l) (hb : bgOk m xs.length) (hq0 : ∀ S, bgF m xs l = S → nextN S < 0) :
    Calls Try.prog 5 #[.agg (startC m A xs.length c (l : Int))] w fun e w' => e = .returned (.bool true) ∧ Below w.heap.size w w' := by
  have Hb := Aside0.mk hb
  have hRel := Rel.bg hx m l
  have hF : (bgF m xs l).ok := bgF_ok hx hl m
  have hR : (bgR m xs l).ok := bgR_ok hx hl m
  obtain ⟨S, hS⟩ : ∃ S, bgF m xs l = S := ⟨_, rfl⟩
  obtain ⟨R, hRR⟩ : ∃ R, bgR m xs l = R := ⟨_, rfl⟩
  have hmS : S.m = m := by rw [← hS]; rfl
  rw [hS] at hF hRel
  rw [hRR] at hR hRel
  have by_ := fun w hC => begun_yes m A c l xs w Hb.out hC hx hl
  rw [hS, hRR] at by_
  have By := Aside0.mk by_
  have HmS := Aside0.mk hmS
  have hS0 := hS
  have hRR0 := hRR
  clear by_ hS hRR hb hmS
  have hMo := (bg_mode (xs := xs) (l := l) Hb.out)
  rw [hS0, hRR0] at hMo
  have hq := hq0 S hS0
  have N1 : Aside0 (∀ (g : Nat) W, St FT W g S → Calls Try.prog 17 #[.pointer (some ⟨g, 0, none⟩)] W fun e w' => e = .returned (.tuple #[.agg (trapC 0 0 false), .bool false]) ∧ KpN W w') := ⟨fun g W h => by
    have := next_c g S W h hF hMo.1; rw [nextC_eq, show nextB S = decide (0 ≤ nextN S) from rfl, nC_no hq, decide_eq_false (by omega)] at this; exact this⟩
  clear hq hq0 hMo hS0 hRR0
  go_enter Try.func5, Try.ntmps5
  go_wp2_with (first
    | ((with_reducible refine gate_dst (N := 1) rfl ?_); refine bx_ev rfl rfl (N := 1) rfl (startC m A xs.length c (l : Int)) rfl ?_; intro g hg_g w1 hb_g hk_g; have Hg_g := Aside0.mk hg_g; clear hg_g)
    | (go_at_call 9; refine (awake9_c _).mono ?_; rintro e w2 ⟨rfl, hk2⟩; have hG2 := (Bk.mk hb_g).kp hk2 (fun h => h); have hC2 : Kd.C k68 w2 A xs.length xs := Kd.C_below hC ((hk_g.trans hk2).below (fun _ _ h => h.elim) (Nat.le_refl _)))
    | ((with_reducible refine gate_dst (N := 14) rfl ?_); refine wpList_load_row rfl 25 _ rfl g rfl _ (startC m A xs.length c (l : Int)) (0, 0) _ (hG2.blk) Try.underlying25 rfl infoS ?_)
    | (go_at_call 10; refine ((By.out _ hC2)).mono ?_; rintro e w3 ⟨rfl, hk3⟩)
    | ((with_reducible refine gate_dst (N := 3) rfl ?_); refine al_ev rfl rfl (N := 3) rfl _ (zeroF _) ?_; intro f hg_f w4 hb_f hk_f; have Hg_f := Aside0.mk hg_f; clear hg_f)
    | ((with_reducible refine gate_dst (N := 4) rfl ?_); refine al_ev rfl rfl (N := 4) rfl _ (zeroR _) ?_; intro p hg_p w5 hb_p hk_p; have Hg_p := Aside0.mk hg_p; clear hg_p)
    | (((with_reducible refine gate_store (t := 31) (p := 3) rfl ?_); refine st_ev rfl rfl rfl f (S.cells) _ _ rfl rfl (((Bk.mk hb_f).kp hk_p (fun h => h)).blk) infoF rfl (VS.one _) ?_; intro w6 hs_w6 ks_w6); have hpf : p ≠ f := (by have := Hg_p.out; have := blk_lt hb_f; omega); have hP6 := (Bk.mk hb_p).kp ks_w6 hpf)
    | (((with_reducible refine gate_store (t := 34) (p := 4) rfl ?_); refine st_ev rfl rfl rfl p (R.cells) _ _ rfl rfl (hP6.blk) infoR rfl (VS.one _) ?_; intro w7 hs_w7 ks_w7); have hI : St FT w7 f S := (St.mk hs_w6).kp ks_w7 (fun e : f = p => hpf e.symm); have hP : St RT w7 p R := St.mk hs_w7; have hfw : w.heap.size ≤ f := (by have := Hg_f.out; have := ((hk_g.trans hk2).trans hk3).size; omega); have hpw : w.heap.size ≤ p := (by have := Hg_p.out; have := (((hk_g.trans hk2).trans hk3).trans hk_f).size; omega); have K7 : KpN w w7 := ((((((hk_g.trans hk2).trans hk3).trans hk_f).trans hk_p).then ks_w6 fun i hi (e : i = f) => by omega).then ks_w7 fun i hi (e : i = p) => by omega); clear hb_g hk_g Hg_g hk2 hG2 hC2 hk3 hb_f hk_f Hg_f hb_p hk_p Hg_p hs_w6 ks_w6 hP6 hs_w7 ks_w7))
  refine (N1.out f _ hI).mono ?_
  rintro e w8 ⟨rfl, k8⟩
  have hI8 := hI.kp k8 (fun h => h)
  have K8 := K7.trans k8
  clear hI hP k8 K7
  go_wp2_with (first
    | ((with_reducible refine gate_dst (N := 6) rfl ?_); refine al_ev rfl rfl (N := 6) rfl _ (zeroT _) ?_; intro a hg_a w9 hb_a hk_a; have Hg_a := Aside0.mk hg_a; clear hg_a)
    | (((with_reducible refine gate_store (t := 27) (p := 6) rfl ?_); refine st_ev rfl rfl rfl a (trapC 0 0 false) _ _ rfl rfl (hb_a) infoT rfl (trapC_one _ _ _) ?_; intro wa hs_wa ks_wa); have hwa : w.heap.size ≤ a := (by have := Hg_a.out; have := K8.size; omega); have Ka : KpN w wa := ((K8.trans hk_a).then ks_wa fun i hi (e : i = a) => by omega))
    | ((with_reducible refine gate_dst (N := 27) rfl ?_); refine wpList_load_row rfl 27 _ rfl a rfl _ (trapC 0 0 false) (0, 0) _ (hs_wa) Try.underlying27 rfl infoT ?_))
  go_ret
  exact ⟨rfl, Ka.below (fun _ _ h => h.elim) (Nat.le_refl _)⟩
set_option maxHeartbeats 8000000 in
set_option maxRecDepth 100000 in
theorem tmaskB_yes (m : Int) (A : Option Addr) (c : Nat) (l : Nat) (xs : List WR) (n : Nat) (w : World) (hC : Kd.C k68 w A xs.length xs) (hx : wrOk xs) (hl : U l) (hb : bgOk m xs.length) (hq0 : ∀ S, bgF m xs l = S → nextN S = (n : Int)) (hd0 : ∀ S, bgF m xs l = S → delegW S n true = false) (hm0 : ∀ S : VS, bgF m xs l = S → S.m = 3) :
    Calls Try.prog 5 #[.agg (startC m A xs.length c (l : Int))] w fun e w' => e = .returned (.bool true) ∧ Below w.heap.size w w' := by
  have Hb := Aside0.mk hb
  have hRel := Rel.bg hx m l
  have hF : (bgF m xs l).ok := bgF_ok hx hl m
  have hR : (bgR m xs l).ok := bgR_ok hx hl m
  obtain ⟨S, hS⟩ : ∃ S, bgF m xs l = S := ⟨_, rfl⟩
  obtain ⟨R, hRR⟩ : ∃ R, bgR m xs l = R := ⟨_, rfl⟩
  have hmS : S.m = m := by rw [← hS]; rfl
  rw [hS] at hF hRel
  rw [hRR] at hR hRel
  have by_ := fun w hC => begun_yes m A c l xs w Hb.out hC hx hl
  rw [hS, hRR] at by_
  have By := Aside0.mk by_
  have HmS := Aside0.mk hmS
  have hS0 := hS
  have hRR0 := hRR
  clear by_ hS hRR hb hmS
  have hMo := (bg_mode (xs := xs) (l := l) Hb.out)
  rw [hS0, hRR0] at hMo
  have hq := hq0 S hS0
  have hd := hd0 S hS0
  have hm := hm0 S hS0
  obtain ⟨n63, hpb, hmb, h3⟩ := next_bit hF (show 0 ≤ nextN S by omega)
  rw [hq] at n63 hpb hmb
  have hn : n < 64 := by omega
  have N1 : Aside0 (∀ (g : Nat) W, St FT W g S → Calls Try.prog 17 #[.pointer (some ⟨g, 0, none⟩)] W fun e w' => e = .returned (.tuple #[.agg (trapC n 0 true), .bool true]) ∧ KpN W w') := ⟨fun g W h => by
    have := next_c g S W h hF hMo.1; rw [nextC_eq, show nextB S = decide (0 ≤ nextN S) from rfl, hq, nC_yes (by omega), decide_eq_true (by omega)] at this; exact this⟩
  have D1 : Aside0 (∀ (g : Nat) W, St FT W g S → Calls Try.prog 12 #[.pointer (some ⟨g, 0, none⟩), .agg (trapC n 0 true)] W fun e w' => e = .returned (.bool false) ∧ KpN W w') := ⟨fun g W h => by have := deleg_c g S n 0 true W h hF hn; rw [hd] at this; exact this⟩
  have PD : Aside0 (∀ (g : Nat) W, St FT W g S → Calls Try.prog 19 #[.pointer (some ⟨g, 0, none⟩)] W fun e w' => e = .returned (.int .u64 ((pendW S : Nat) : Int)) ∧ ∃ m, w' = W.drewN m) := ⟨fun g W h => pending_c g S W h hF⟩
  have I3 : Aside0 (∀ (g : Nat) W, St FT W g S → Calls Try.prog 20 #[.pointer (some ⟨g, 0, none⟩), .int .i64 3] W fun e w' => e = .returned (.bool true) ∧ ∃ m, w' = W.drewN m) := ⟨fun g W h => by have := is_c g S 3 W h hF; rw [h3 hm] at this; exact this⟩
  obtain ⟨q, hq3, hqm⟩ : ∃ q : Nat, q ≤ 3 ∧ S.m = (q : Int) := by
    rcases hMo.1 with h | h | h
    · exact ⟨0, by decide, h⟩
    · exact ⟨1, by decide, h⟩
    · exact ⟨3, by decide, h⟩
  have okE : (entM S n 0 true 4096 q).ok := keepW_ok (setW_ok (setW_ok (ent0_ok hF hn U.num U.num true 11 10 12) (by decide) _) (by decide) _) q
  have E1 : Aside0 (∀ (g : Nat) W, St FT W g S → Calls Try.prog 15 #[.pointer (some ⟨g, 0, none⟩), .agg (trapC n 0 true), .int .u64 4096] W fun e w' => e = .returned (.int .u64 ((targetW (S.r 7) n true : Nat) : Int)) ∧ St FT w' g (entM S n 0 true 4096 q) ∧ KpG W w' g) := ⟨fun g W h => enter_m q hq3 g S n 0 true 4096 W h hF hn U.num U.num hqm hd⟩
  have mE : modeOk (entM S n 0 true 4096 q) := .inr (.inr rfl)
  have ha := again_m S hF n 0 true 4096 q
  generalize entM S n 0 true 4096 q = E at *
  have N2 : Aside0 (∀ (g : Nat) W, St FT W g E → Calls Try.prog 17 #[.pointer (some ⟨g, 0, none⟩)] W fun e w' => e = .returned (.tuple #[.agg (trapC 0 0 false), .bool false]) ∧ KpN W w') := ⟨fun g W h => by
    have := next_c g E W h okE mE; rw [nextC_eq, show nextB E = decide (0 ≤ nextN E) from rfl, nC_no ha, decide_eq_false (by omega)] at this; exact this⟩
  have t1 : decide ((n : Int) < 0) = false := decide_eq_false (by omega)
  have t2 : decide (63 < (n : Int)) = false := decide_eq_false (by omega)
  have t2b : decide (63 < n) = false := decide_eq_false (by omega)
  have s1 := shr_bit (pend_ok hF) (mask_bit (pend_ok hF) hn hpb)
  have s2 := shr_bit (hF 4) (mask_bit (hF 4) hn hmb)
  have t3 : (S.m == 3) = true := beq_iff_eq.2 hm
  clear hq hq0 hd hd0 hm hm0 hMo hS0 hRR0 h3 hpb hmb mE okE ha hqm hq3 hRel
  go_enter Try.func5, Try.ntmps5
  go_wp2_with (first
    | ((with_reducible refine gate_dst (N := 1) rfl ?_); refine bx_ev rfl rfl (N := 1) rfl (startC m A xs.length c (l : Int)) rfl ?_; intro g hg_g w1 hb_g hk_g; have Hg_g := Aside0.mk hg_g; clear hg_g)
    | (go_at_call 9; refine (awake9_c _).mono ?_; rintro e w2 ⟨rfl, hk2⟩; have hG2 := (Bk.mk hb_g).kp hk2 (fun h => h); have hC2 : Kd.C k68 w2 A xs.length xs := Kd.C_below hC ((hk_g.trans hk2).below (fun _ _ h => h.elim) (Nat.le_refl _)))
    | ((with_reducible refine gate_dst (N := 14) rfl ?_); refine wpList_load_row rfl 25 _ rfl g rfl _ (startC m A xs.length c (l : Int)) (0, 0) _ (hG2.blk) Try.underlying25 rfl infoS ?_)
    | (go_at_call 10; refine ((By.out _ hC2)).mono ?_; rintro e w3 ⟨rfl, hk3⟩)
    | ((with_reducible refine gate_dst (N := 3) rfl ?_); refine al_ev rfl rfl (N := 3) rfl _ (zeroF _) ?_; intro f hg_f w4 hb_f hk_f; have Hg_f := Aside0.mk hg_f; clear hg_f)
    | ((with_reducible refine gate_dst (N := 4) rfl ?_); refine al_ev rfl rfl (N := 4) rfl _ (zeroR _) ?_; intro p hg_p w5 hb_p hk_p; have Hg_p := Aside0.mk hg_p; clear hg_p)
    | (((with_reducible refine gate_store (t := 31) (p := 3) rfl ?_); refine st_ev rfl rfl rfl f (S.cells) _ _ rfl rfl (((Bk.mk hb_f).kp hk_p (fun h => h)).blk) infoF rfl (VS.one _) ?_; intro w6 hs_w6 ks_w6); have hpf : p ≠ f := (by have := Hg_p.out; have := blk_lt hb_f; omega); have hP6 := (Bk.mk hb_p).kp ks_w6 hpf)
    | (((with_reducible refine gate_store (t := 34) (p := 4) rfl ?_); refine st_ev rfl rfl rfl p (R.cells) _ _ rfl rfl (hP6.blk) infoR rfl (VS.one _) ?_; intro w7 hs_w7 ks_w7); have hI : St FT w7 f S := (St.mk hs_w6).kp ks_w7 (fun e : f = p => hpf e.symm); have hP : St RT w7 p R := St.mk hs_w7; have hfw : w.heap.size ≤ f := (by have := Hg_f.out; have := ((hk_g.trans hk2).trans hk3).size; omega); have hpw : w.heap.size ≤ p := (by have := Hg_p.out; have := (((hk_g.trans hk2).trans hk3).trans hk_f).size; omega); have K7 : KpN w w7 := ((((((hk_g.trans hk2).trans hk3).trans hk_f).trans hk_p).then ks_w6 fun i hi (e : i = f) => by omega).then ks_w7 fun i hi (e : i = p) => by omega); clear hb_g hk_g Hg_g hk2 hG2 hC2 hk3 hb_f hk_f Hg_f hb_p hk_p Hg_p hs_w6 ks_w6 hP6 hs_w7 ks_w7))
  refine (N1.out f _ hI).mono ?_
  rintro e w8 ⟨rfl, k8⟩
  have hI8 := hI.kp k8 (fun h => h)
  have K8 := K7.trans k8
  clear hI hP k8 K7
  have c0 := hI8.c0
  have c4 := hI8.c 4
  go_wp2_with (first
    | ((with_reducible refine gate_dst (N := 6) rfl ?_); refine al_ev rfl rfl (N := 6) rfl _ (zeroT _) ?_; intro a hg_a w9 hb_a hk_a; have Hg_a := Aside0.mk hg_a; clear hg_a)
    | (((with_reducible refine gate_store (t := 27) (p := 6) rfl ?_); refine st_ev rfl rfl rfl a (trapC n 0 true) _ _ rfl rfl (hb_a) infoT rfl (trapC_one _ _ _) ?_; intro wa hs_wa ks_wa); have hwa : w.heap.size ≤ a := (by have := Hg_a.out; have := K8.size; omega); have hfa : f ≠ a := (by have := Hg_a.out; have := hI8.lt; omega); have Ka : KpN w wa := ((K8.trans hk_a).then ks_wa fun i hi (e : i = a) => by omega); have hIa := (hI8.kp hk_a (fun h => h)).kp ks_wa hfa; have hAa := Bk.mk hs_wa; have t0 := tr_c0 hAa; have u2 := tr_c2 hAa; have d0 := hIa.c0; have d4 := hIa.c 4))
  have cPD := rg_calls (w := wa) fun W hW => (PD.out f W (hIa.kp hW (fun h => h))).mono fun _ _ q => ⟨q.1, by obtain ⟨k, hk⟩ := q.2; rw [hk]; exact (Kp.refl _ _).drewN _⟩
  have cI3 := rg_calls (w := wa) fun W hW => (I3.out f W (hIa.kp hW (fun h => h))).mono fun _ _ q => ⟨q.1, by obtain ⟨k, hk⟩ := q.2; rw [hk]; exact (Kp.refl _ _).drewN _⟩
  have k0 := cell_regrown t0
  have k2 := cell_regrown u2
  have k3 := cell_regrown d0
  have k4 := cell_regrown d4
  clear t0 u2 d0 d4
  refine wp_region_quiet_below (by kernel_rfl) (by kernel_rfl) ?_
  repeat (quiet_step (first | with_reducible exact cPD _ _ | with_reducible exact cI3 _ _))
  refine wpQuiet_nil ?_
  intro wb hwb
  replace hwb : Rg wa wb := hwb
  have hIb := hIa.kp hwb.kp (fun h => h)
  have hAb := hAa.kp hwb.kp (fun h => h)
  have Kb := Ka.trans hwb.kp
  clear hI8 K8 hb_a hk_a Hg_a hs_wa ks_wa hIa hAa Ka hwb k0 k2 k3 k4 cPD c0 c4
  go_wp2_with (first
    | ((with_reducible refine gate_dst (N := 69) rfl ?_); refine wpList_load_row rfl 27 _ rfl a rfl _ (trapC n 0 true) (0, 0) _ (hAb.blk) Try.underlying27 rfl infoT ?_)
    | (go_at_call 12; (with_reducible refine (D1.out f _ hIb).mono ?_); rintro e wc ⟨rfl, kc⟩; have hIc := hIb.kp kc (fun h => h); have hAc := hAb.kp kc (fun h => h); have Kc := Kb.trans kc)
    | ((with_reducible refine gate_dst (N := 71) rfl ?_); refine wpList_load_row rfl 27 _ rfl a rfl _ (trapC n 0 true) (0, 0) _ (hAc.blk) Try.underlying27 rfl infoT ?_)
    | (go_at_call 15; refine (E1.out f _ hIc).mono ?_; rintro e wd ⟨rfl, hId, kd⟩; have Kd : KpN w wd := (Kc.then kd fun i hi (e : i = f) => by omega))
    | (go_at_call 17; refine (N2.out f _ hId).mono ?_; rintro e we ⟨rfl, ke⟩; have hIe := hId.kp ke (fun h => h); have Ke := Kd.trans ke)
    | ((with_reducible refine gate_dst (N := 9) rfl ?_); refine al_ev rfl rfl (N := 9) rfl _ (zeroT _) ?_; intro b hg_b wf hb_b hk_b; have Hg_b := Aside0.mk hg_b; clear hg_b)
    | (((with_reducible refine gate_store (t := 27) (p := 9) rfl ?_); refine st_ev rfl rfl rfl b (trapC 0 0 false) _ _ rfl rfl (hb_b) infoT rfl (trapC_one _ _ _) ?_; intro wg hs_wg ks_wg); have hwb : w.heap.size ≤ b := (by have := Hg_b.out; have := Ke.size; omega); have hfb : f ≠ b := (by have := Hg_b.out; have := hIe.lt; omega); have Kg : KpN w wg := ((Ke.trans hk_b).then ks_wg fun i hi (e : i = b) => by omega); have hIg := (hIe.kp hk_b (fun h => h)).kp ks_wg hfb))
  go_ret
  exact ⟨rfl, Kg.below (fun _ _ h => h.elim) (Nat.le_refl _)⟩
set_option maxHeartbeats 8000000 in
set_option maxRecDepth 100000 in
theorem tmaskC_yes (m : Int) (A : Option Addr) (c : Nat) (l : Nat) (xs : List WR) (n : Nat) (w : World) (hC : Kd.C k68 w A xs.length xs) (hx : wrOk xs) (hl : U l) (hb : bgOk m xs.length) (hq0 : ∀ S, bgF m xs l = S → nextN S = (n : Int)) (hd0 : ∀ S, bgF m xs l = S → delegW S n true = false) (hm0 : ∀ S : VS, bgF m xs l = S → S.m ≠ 3) :
    Calls Try.prog 5 #[.agg (startC m A xs.length c (l : Int))] w fun e w' => e = .returned (.bool true) ∧ Below w.heap.size w w' := by
  have Hb := Aside0.mk hb
  have hRel := Rel.bg hx m l
  have hF : (bgF m xs l).ok := bgF_ok hx hl m
  have hR : (bgR m xs l).ok := bgR_ok hx hl m
  obtain ⟨S, hS⟩ : ∃ S, bgF m xs l = S := ⟨_, rfl⟩
  obtain ⟨R, hRR⟩ : ∃ R, bgR m xs l = R := ⟨_, rfl⟩
  have hmS : S.m = m := by rw [← hS]; rfl
  rw [hS] at hF hRel
  rw [hRR] at hR hRel
  have by_ := fun w hC => begun_yes m A c l xs w Hb.out hC hx hl
  rw [hS, hRR] at by_
  have By := Aside0.mk by_
  have HmS := Aside0.mk hmS
  have hS0 := hS
  have hRR0 := hRR
  clear by_ hS hRR hb hmS
  have hMo := (bg_mode (xs := xs) (l := l) Hb.out)
  rw [hS0, hRR0] at hMo
  have hq := hq0 S hS0
  have hd := hd0 S hS0
  have hm := hm0 S hS0
  obtain ⟨n63, hpb, hmb, h3⟩ := next_bit hF (show 0 ≤ nextN S by omega)
  rw [hq] at n63 hpb hmb
  have hn : n < 64 := by omega
  have N1 : Aside0 (∀ (g : Nat) W, St FT W g S → Calls Try.prog 17 #[.pointer (some ⟨g, 0, none⟩)] W fun e w' => e = .returned (.tuple #[.agg (trapC n 0 true), .bool true]) ∧ KpN W w') := ⟨fun g W h => by
    have := next_c g S W h hF hMo.1; rw [nextC_eq, show nextB S = decide (0 ≤ nextN S) from rfl, hq, nC_yes (by omega), decide_eq_true (by omega)] at this; exact this⟩
  have D1 : Aside0 (∀ (g : Nat) W, St FT W g S → Calls Try.prog 12 #[.pointer (some ⟨g, 0, none⟩), .agg (trapC n 0 true)] W fun e w' => e = .returned (.bool false) ∧ KpN W w') := ⟨fun g W h => by have := deleg_c g S n 0 true W h hF hn; rw [hd] at this; exact this⟩
  have PD : Aside0 (∀ (g : Nat) W, St FT W g S → Calls Try.prog 19 #[.pointer (some ⟨g, 0, none⟩)] W fun e w' => e = .returned (.int .u64 ((pendW S : Nat) : Int)) ∧ ∃ m, w' = W.drewN m) := ⟨fun g W h => pending_c g S W h hF⟩
  obtain ⟨q, hq3, hqm⟩ : ∃ q : Nat, q ≤ 3 ∧ S.m = (q : Int) := by
    rcases hMo.1 with h | h | h
    · exact ⟨0, by decide, h⟩
    · exact ⟨1, by decide, h⟩
    · exact ⟨3, by decide, h⟩
  have okE : (entM S n 0 true 4096 q).ok := keepW_ok (setW_ok (setW_ok (ent0_ok hF hn U.num U.num true 11 10 12) (by decide) _) (by decide) _) q
  have E1 : Aside0 (∀ (g : Nat) W, St FT W g S → Calls Try.prog 15 #[.pointer (some ⟨g, 0, none⟩), .agg (trapC n 0 true), .int .u64 4096] W fun e w' => e = .returned (.int .u64 ((targetW (S.r 7) n true : Nat) : Int)) ∧ St FT w' g (entM S n 0 true 4096 q) ∧ KpG W w' g) := ⟨fun g W h => enter_m q hq3 g S n 0 true 4096 W h hF hn U.num U.num hqm hd⟩
  have mE : modeOk (entM S n 0 true 4096 q) := .inr (.inr rfl)
  have ha := again_m S hF n 0 true 4096 q
  generalize entM S n 0 true 4096 q = E at *
  have N2 : Aside0 (∀ (g : Nat) W, St FT W g E → Calls Try.prog 17 #[.pointer (some ⟨g, 0, none⟩)] W fun e w' => e = .returned (.tuple #[.agg (trapC 0 0 false), .bool false]) ∧ KpN W w') := ⟨fun g W h => by
    have := next_c g E W h okE mE; rw [nextC_eq, show nextB E = decide (0 ≤ nextN E) from rfl, nC_no ha, decide_eq_false (by omega)] at this; exact this⟩
  have t1 : decide ((n : Int) < 0) = false := decide_eq_false (by omega)
  have t2 : decide (63 < (n : Int)) = false := decide_eq_false (by omega)
  have t2b : decide (63 < n) = false := decide_eq_false (by omega)
  have s1 := shr_bit (pend_ok hF) (mask_bit (pend_ok hF) hn hpb)
  have s2 := shr_bit (hF 4) (mask_bit (hF 4) hn hmb)
  have t3 : (S.m == 3) = false := beq_eq_false_iff_ne.2 hm
  clear hq hq0 hd hd0 hm hm0 hMo hS0 hRR0 h3 hpb hmb mE okE ha hqm hq3 hRel
  go_enter Try.func5, Try.ntmps5
  go_wp2_with (first
    | ((with_reducible refine gate_dst (N := 1) rfl ?_); refine bx_ev rfl rfl (N := 1) rfl (startC m A xs.length c (l : Int)) rfl ?_; intro g hg_g w1 hb_g hk_g; have Hg_g := Aside0.mk hg_g; clear hg_g)
    | (go_at_call 9; refine (awake9_c _).mono ?_; rintro e w2 ⟨rfl, hk2⟩; have hG2 := (Bk.mk hb_g).kp hk2 (fun h => h); have hC2 : Kd.C k68 w2 A xs.length xs := Kd.C_below hC ((hk_g.trans hk2).below (fun _ _ h => h.elim) (Nat.le_refl _)))
    | ((with_reducible refine gate_dst (N := 14) rfl ?_); refine wpList_load_row rfl 25 _ rfl g rfl _ (startC m A xs.length c (l : Int)) (0, 0) _ (hG2.blk) Try.underlying25 rfl infoS ?_)
    | (go_at_call 10; refine ((By.out _ hC2)).mono ?_; rintro e w3 ⟨rfl, hk3⟩)
    | ((with_reducible refine gate_dst (N := 3) rfl ?_); refine al_ev rfl rfl (N := 3) rfl _ (zeroF _) ?_; intro f hg_f w4 hb_f hk_f; have Hg_f := Aside0.mk hg_f; clear hg_f)
    | ((with_reducible refine gate_dst (N := 4) rfl ?_); refine al_ev rfl rfl (N := 4) rfl _ (zeroR _) ?_; intro p hg_p w5 hb_p hk_p; have Hg_p := Aside0.mk hg_p; clear hg_p)
    | (((with_reducible refine gate_store (t := 31) (p := 3) rfl ?_); refine st_ev rfl rfl rfl f (S.cells) _ _ rfl rfl (((Bk.mk hb_f).kp hk_p (fun h => h)).blk) infoF rfl (VS.one _) ?_; intro w6 hs_w6 ks_w6); have hpf : p ≠ f := (by have := Hg_p.out; have := blk_lt hb_f; omega); have hP6 := (Bk.mk hb_p).kp ks_w6 hpf)
    | (((with_reducible refine gate_store (t := 34) (p := 4) rfl ?_); refine st_ev rfl rfl rfl p (R.cells) _ _ rfl rfl (hP6.blk) infoR rfl (VS.one _) ?_; intro w7 hs_w7 ks_w7); have hI : St FT w7 f S := (St.mk hs_w6).kp ks_w7 (fun e : f = p => hpf e.symm); have hP : St RT w7 p R := St.mk hs_w7; have hfw : w.heap.size ≤ f := (by have := Hg_f.out; have := ((hk_g.trans hk2).trans hk3).size; omega); have hpw : w.heap.size ≤ p := (by have := Hg_p.out; have := (((hk_g.trans hk2).trans hk3).trans hk_f).size; omega); have K7 : KpN w w7 := ((((((hk_g.trans hk2).trans hk3).trans hk_f).trans hk_p).then ks_w6 fun i hi (e : i = f) => by omega).then ks_w7 fun i hi (e : i = p) => by omega); clear hb_g hk_g Hg_g hk2 hG2 hC2 hk3 hb_f hk_f Hg_f hb_p hk_p Hg_p hs_w6 ks_w6 hP6 hs_w7 ks_w7))
  refine (N1.out f _ hI).mono ?_
  rintro e w8 ⟨rfl, k8⟩
  have hI8 := hI.kp k8 (fun h => h)
  have K8 := K7.trans k8
  clear hI hP k8 K7
  have c0 := hI8.c0
  have c4 := hI8.c 4
  go_wp2_with (first
    | ((with_reducible refine gate_dst (N := 6) rfl ?_); refine al_ev rfl rfl (N := 6) rfl _ (zeroT _) ?_; intro a hg_a w9 hb_a hk_a; have Hg_a := Aside0.mk hg_a; clear hg_a)
    | (((with_reducible refine gate_store (t := 27) (p := 6) rfl ?_); refine st_ev rfl rfl rfl a (trapC n 0 true) _ _ rfl rfl (hb_a) infoT rfl (trapC_one _ _ _) ?_; intro wa hs_wa ks_wa); have hwa : w.heap.size ≤ a := (by have := Hg_a.out; have := K8.size; omega); have hfa : f ≠ a := (by have := Hg_a.out; have := hI8.lt; omega); have Ka : KpN w wa := ((K8.trans hk_a).then ks_wa fun i hi (e : i = a) => by omega); have hIa := (hI8.kp hk_a (fun h => h)).kp ks_wa hfa; have hAa := Bk.mk hs_wa; have t0 := tr_c0 hAa; have u2 := tr_c2 hAa; have d0 := hIa.c0; have d4 := hIa.c 4))
  have cPD := rg_calls (w := wa) fun W hW => (PD.out f W (hIa.kp hW (fun h => h))).mono fun _ _ q => ⟨q.1, by obtain ⟨k, hk⟩ := q.2; rw [hk]; exact (Kp.refl _ _).drewN _⟩
  have k0 := cell_regrown t0
  have k2 := cell_regrown u2
  have k3 := cell_regrown d0
  have k4 := cell_regrown d4
  clear t0 u2 d0 d4
  refine wp_region_quiet_below (by kernel_rfl) (by kernel_rfl) ?_
  repeat (quiet_step (first | with_reducible exact cPD _ _))
  refine wpQuiet_nil ?_
  intro wb hwb
  replace hwb : Rg wa wb := hwb
  have hIb := hIa.kp hwb.kp (fun h => h)
  have hAb := hAa.kp hwb.kp (fun h => h)
  have Kb := Ka.trans hwb.kp
  clear hI8 K8 hb_a hk_a Hg_a hs_wa ks_wa hIa hAa Ka hwb k0 k2 k3 k4 cPD c0 c4
  go_wp2_with (first
    | ((with_reducible refine gate_dst (N := 69) rfl ?_); refine wpList_load_row rfl 27 _ rfl a rfl _ (trapC n 0 true) (0, 0) _ (hAb.blk) Try.underlying27 rfl infoT ?_)
    | (go_at_call 12; (with_reducible refine (D1.out f _ hIb).mono ?_); rintro e wc ⟨rfl, kc⟩; have hIc := hIb.kp kc (fun h => h); have hAc := hAb.kp kc (fun h => h); have Kc := Kb.trans kc)
    | ((with_reducible refine gate_dst (N := 71) rfl ?_); refine wpList_load_row rfl 27 _ rfl a rfl _ (trapC n 0 true) (0, 0) _ (hAc.blk) Try.underlying27 rfl infoT ?_)
    | (go_at_call 15; refine (E1.out f _ hIc).mono ?_; rintro e wd ⟨rfl, hId, kd⟩; have Kd : KpN w wd := (Kc.then kd fun i hi (e : i = f) => by omega))
    | (go_at_call 17; refine (N2.out f _ hId).mono ?_; rintro e we ⟨rfl, ke⟩; have hIe := hId.kp ke (fun h => h); have Ke := Kd.trans ke)
    | ((with_reducible refine gate_dst (N := 9) rfl ?_); refine al_ev rfl rfl (N := 9) rfl _ (zeroT _) ?_; intro b hg_b wf hb_b hk_b; have Hg_b := Aside0.mk hg_b; clear hg_b)
    | (((with_reducible refine gate_store (t := 27) (p := 9) rfl ?_); refine st_ev rfl rfl rfl b (trapC 0 0 false) _ _ rfl rfl (hb_b) infoT rfl (trapC_one _ _ _) ?_; intro wg hs_wg ks_wg); have hwb : w.heap.size ≤ b := (by have := Hg_b.out; have := Ke.size; omega); have hfb : f ≠ b := (by have := Hg_b.out; have := hIe.lt; omega); have Kg : KpN w wg := ((Ke.trans hk_b).then ks_wg fun i hi (e : i = b) => by omega); have hIg := (hIe.kp hk_b (fun h => h)).kp ks_wg hfb))
  go_ret
  exact ⟨rfl, Kg.below (fun _ _ h => h.elim) (Nat.le_refl _)⟩
set_option maxHeartbeats 8000000 in
set_option maxRecDepth 100000 in
theorem tmaskD_yes (m : Int) (A : Option Addr) (c : Nat) (l : Nat) (xs : List WR) (n : Nat) (w : World) (hC : Kd.C k68 w A xs.length xs) (hx : wrOk xs) (hl : U l) (hb : bgOk m xs.length) (hq0 : ∀ S, bgF m xs l = S → nextN S = (n : Int)) (hd0 : ∀ S, bgF m xs l = S → delegW S n true = true) (hm0 : ∀ S : VS, bgF m xs l = S → S.m ≠ 3) (ha0 : ∀ S, bgF m xs l = S → nextN (entS S n 0 true 4096) < 0) :
    Calls Try.prog 5 #[.agg (startC m A xs.length c (l : Int))] w fun e w' => e = .returned (.bool true) ∧ Below w.heap.size w w' := by
  have Hb := Aside0.mk hb
  have hRel := Rel.bg hx m l
  have hF : (bgF m xs l).ok := bgF_ok hx hl m
  have hR : (bgR m xs l).ok := bgR_ok hx hl m
  obtain ⟨S, hS⟩ : ∃ S, bgF m xs l = S := ⟨_, rfl⟩
  obtain ⟨R, hRR⟩ : ∃ R, bgR m xs l = R := ⟨_, rfl⟩
  have hmS : S.m = m := by rw [← hS]; rfl
  rw [hS] at hF hRel
  rw [hRR] at hR hRel
  have by_ := fun w hC => begun_yes m A c l xs w Hb.out hC hx hl
  rw [hS, hRR] at by_
  have By := Aside0.mk by_
  have HmS := Aside0.mk hmS
  have hS0 := hS
  have hRR0 := hRR
  clear by_ hS hRR hb hmS
  have hMo := (bg_mode (xs := xs) (l := l) Hb.out)
  rw [hS0, hRR0] at hMo
  have hq := hq0 S hS0
  have hd := hd0 S hS0
  have hm := hm0 S hS0
  obtain ⟨n63, hpb, hmb, h3⟩ := next_bit hF (show 0 ≤ nextN S by omega)
  rw [hq] at n63 hpb hmb
  have hn : n < 64 := by omega
  have N1 : Aside0 (∀ (g : Nat) W, St FT W g S → Calls Try.prog 17 #[.pointer (some ⟨g, 0, none⟩)] W fun e w' => e = .returned (.tuple #[.agg (trapC n 0 true), .bool true]) ∧ KpN W w') := ⟨fun g W h => by
    have := next_c g S W h hF hMo.1; rw [nextC_eq, show nextB S = decide (0 ≤ nextN S) from rfl, hq, nC_yes (by omega), decide_eq_true (by omega)] at this; exact this⟩
  have D1 : Aside0 (∀ (g : Nat) W, St FT W g S → Calls Try.prog 12 #[.pointer (some ⟨g, 0, none⟩), .agg (trapC n 0 true)] W fun e w' => e = .returned (.bool true) ∧ KpN W w') := ⟨fun g W h => by have := deleg_c g S n 0 true W h hF hn; rw [hd] at this; exact this⟩
  have PD : Aside0 (∀ (g : Nat) W, St FT W g S → Calls Try.prog 19 #[.pointer (some ⟨g, 0, none⟩)] W fun e w' => e = .returned (.int .u64 ((pendW S : Nat) : Int)) ∧ ∃ m, w' = W.drewN m) := ⟨fun g W h => pending_c g S W h hF⟩
  have okE : (entS S n 0 true 4096).ok := setW_ok (setW_ok (setW_ok (ent0_ok hF hn U.num U.num true 17 16 18) (by decide) _) (by decide) _) (by decide) _
  have E1 : Aside0 (∀ (g : Nat) W, St FT W g S → Calls Try.prog 15 #[.pointer (some ⟨g, 0, none⟩), .agg (trapC n 0 true), .int .u64 4096] W fun e w' => e = .returned (.int .u64 ((targetW (S.r 13) n true : Nat) : Int)) ∧ St FT w' g (entS S n 0 true 4096) ∧ KpG W w' g) := ⟨fun g W h => enter_s g S n 0 true 4096 W h hF hn U.num U.num hd⟩
  have mE : modeOk (entS S n 0 true 4096) := .inr (.inl rfl)
  have ha := ha0 S hS0
  generalize entS S n 0 true 4096 = E at *
  have N2 : Aside0 (∀ (g : Nat) W, St FT W g E → Calls Try.prog 17 #[.pointer (some ⟨g, 0, none⟩)] W fun e w' => e = .returned (.tuple #[.agg (trapC 0 0 false), .bool false]) ∧ KpN W w') := ⟨fun g W h => by
    have := next_c g E W h okE mE; rw [nextC_eq, show nextB E = decide (0 ≤ nextN E) from rfl, nC_no ha, decide_eq_false (by omega)] at this; exact this⟩
  have t1 : decide ((n : Int) < 0) = false := decide_eq_false (by omega)
  have t2 : decide (63 < (n : Int)) = false := decide_eq_false (by omega)
  have t2b : decide (63 < n) = false := decide_eq_false (by omega)
  have s1 := shr_bit (pend_ok hF) (mask_bit (pend_ok hF) hn hpb)
  have s2 := shr_bit (hF 4) (mask_bit (hF 4) hn hmb)
  have t3 : (S.m == 3) = false := beq_eq_false_iff_ne.2 hm
  clear hq hq0 hd hd0 hm hm0 hMo hS0 hRR0 h3 hpb hmb mE okE ha ha0 hRel
  go_enter Try.func5, Try.ntmps5
  go_wp2_with (first
    | ((with_reducible refine gate_dst (N := 1) rfl ?_); refine bx_ev rfl rfl (N := 1) rfl (startC m A xs.length c (l : Int)) rfl ?_; intro g hg_g w1 hb_g hk_g; have Hg_g := Aside0.mk hg_g; clear hg_g)
    | (go_at_call 9; refine (awake9_c _).mono ?_; rintro e w2 ⟨rfl, hk2⟩; have hG2 := (Bk.mk hb_g).kp hk2 (fun h => h); have hC2 : Kd.C k68 w2 A xs.length xs := Kd.C_below hC ((hk_g.trans hk2).below (fun _ _ h => h.elim) (Nat.le_refl _)))
    | ((with_reducible refine gate_dst (N := 14) rfl ?_); refine wpList_load_row rfl 25 _ rfl g rfl _ (startC m A xs.length c (l : Int)) (0, 0) _ (hG2.blk) Try.underlying25 rfl infoS ?_)
    | (go_at_call 10; refine ((By.out _ hC2)).mono ?_; rintro e w3 ⟨rfl, hk3⟩)
    | ((with_reducible refine gate_dst (N := 3) rfl ?_); refine al_ev rfl rfl (N := 3) rfl _ (zeroF _) ?_; intro f hg_f w4 hb_f hk_f; have Hg_f := Aside0.mk hg_f; clear hg_f)
    | ((with_reducible refine gate_dst (N := 4) rfl ?_); refine al_ev rfl rfl (N := 4) rfl _ (zeroR _) ?_; intro p hg_p w5 hb_p hk_p; have Hg_p := Aside0.mk hg_p; clear hg_p)
    | (((with_reducible refine gate_store (t := 31) (p := 3) rfl ?_); refine st_ev rfl rfl rfl f (S.cells) _ _ rfl rfl (((Bk.mk hb_f).kp hk_p (fun h => h)).blk) infoF rfl (VS.one _) ?_; intro w6 hs_w6 ks_w6); have hpf : p ≠ f := (by have := Hg_p.out; have := blk_lt hb_f; omega); have hP6 := (Bk.mk hb_p).kp ks_w6 hpf)
    | (((with_reducible refine gate_store (t := 34) (p := 4) rfl ?_); refine st_ev rfl rfl rfl p (R.cells) _ _ rfl rfl (hP6.blk) infoR rfl (VS.one _) ?_; intro w7 hs_w7 ks_w7); have hI : St FT w7 f S := (St.mk hs_w6).kp ks_w7 (fun e : f = p => hpf e.symm); have hP : St RT w7 p R := St.mk hs_w7; have hfw : w.heap.size ≤ f := (by have := Hg_f.out; have := ((hk_g.trans hk2).trans hk3).size; omega); have hpw : w.heap.size ≤ p := (by have := Hg_p.out; have := (((hk_g.trans hk2).trans hk3).trans hk_f).size; omega); have K7 : KpN w w7 := ((((((hk_g.trans hk2).trans hk3).trans hk_f).trans hk_p).then ks_w6 fun i hi (e : i = f) => by omega).then ks_w7 fun i hi (e : i = p) => by omega); clear hb_g hk_g Hg_g hk2 hG2 hC2 hk3 hb_f hk_f Hg_f hb_p hk_p Hg_p hs_w6 ks_w6 hP6 hs_w7 ks_w7))
  refine (N1.out f _ hI).mono ?_
  rintro e w8 ⟨rfl, k8⟩
  have hI8 := hI.kp k8 (fun h => h)
  have K8 := K7.trans k8
  clear hI hP k8 K7
  have c0 := hI8.c0
  have c4 := hI8.c 4
  go_wp2_with (first
    | ((with_reducible refine gate_dst (N := 6) rfl ?_); refine al_ev rfl rfl (N := 6) rfl _ (zeroT _) ?_; intro a hg_a w9 hb_a hk_a; have Hg_a := Aside0.mk hg_a; clear hg_a)
    | (((with_reducible refine gate_store (t := 27) (p := 6) rfl ?_); refine st_ev rfl rfl rfl a (trapC n 0 true) _ _ rfl rfl (hb_a) infoT rfl (trapC_one _ _ _) ?_; intro wa hs_wa ks_wa); have hwa : w.heap.size ≤ a := (by have := Hg_a.out; have := K8.size; omega); have hfa : f ≠ a := (by have := Hg_a.out; have := hI8.lt; omega); have Ka : KpN w wa := ((K8.trans hk_a).then ks_wa fun i hi (e : i = a) => by omega); have hIa := (hI8.kp hk_a (fun h => h)).kp ks_wa hfa; have hAa := Bk.mk hs_wa; have t0 := tr_c0 hAa; have u2 := tr_c2 hAa; have d0 := hIa.c0; have d4 := hIa.c 4))
  have cPD := rg_calls (w := wa) fun W hW => (PD.out f W (hIa.kp hW (fun h => h))).mono fun _ _ q => ⟨q.1, by obtain ⟨k, hk⟩ := q.2; rw [hk]; exact (Kp.refl _ _).drewN _⟩
  have k0 := cell_regrown t0
  have k2 := cell_regrown u2
  have k3 := cell_regrown d0
  have k4 := cell_regrown d4
  clear t0 u2 d0 d4
  refine wp_region_quiet_below (by kernel_rfl) (by kernel_rfl) ?_
  repeat (quiet_step (first | with_reducible exact cPD _ _))
  refine wpQuiet_nil ?_
  intro wb hwb
  replace hwb : Rg wa wb := hwb
  have hIb := hIa.kp hwb.kp (fun h => h)
  have hAb := hAa.kp hwb.kp (fun h => h)
  have Kb := Ka.trans hwb.kp
  clear hI8 K8 hb_a hk_a Hg_a hs_wa ks_wa hIa hAa Ka hwb k0 k2 k3 k4 cPD c0 c4
  go_wp2_with (first
    | ((with_reducible refine gate_dst (N := 69) rfl ?_); refine wpList_load_row rfl 27 _ rfl a rfl _ (trapC n 0 true) (0, 0) _ (hAb.blk) Try.underlying27 rfl infoT ?_)
    | (go_at_call 12; (with_reducible refine (D1.out f _ hIb).mono ?_); rintro e wc ⟨rfl, kc⟩; have hIc := hIb.kp kc (fun h => h); have hAc := hAb.kp kc (fun h => h); have Kc := Kb.trans kc)
    | ((with_reducible refine gate_dst (N := 71) rfl ?_); refine wpList_load_row rfl 27 _ rfl a rfl _ (trapC n 0 true) (0, 0) _ (hAc.blk) Try.underlying27 rfl infoT ?_)
    | (go_at_call 15; refine (E1.out f _ hIc).mono ?_; rintro e wd ⟨rfl, hId, kd⟩; have Kd : KpN w wd := (Kc.then kd fun i hi (e : i = f) => by omega))
    | (go_at_call 17; refine (N2.out f _ hId).mono ?_; rintro e we ⟨rfl, ke⟩; have hIe := hId.kp ke (fun h => h); have Ke := Kd.trans ke)
    | ((with_reducible refine gate_dst (N := 9) rfl ?_); refine al_ev rfl rfl (N := 9) rfl _ (zeroT _) ?_; intro b hg_b wf hb_b hk_b; have Hg_b := Aside0.mk hg_b; clear hg_b)
    | (((with_reducible refine gate_store (t := 27) (p := 9) rfl ?_); refine st_ev rfl rfl rfl b (trapC 0 0 false) _ _ rfl rfl (hb_b) infoT rfl (trapC_one _ _ _) ?_; intro wg hs_wg ks_wg); have hwb : w.heap.size ≤ b := (by have := Hg_b.out; have := Ke.size; omega); have hfb : f ≠ b := (by have := Hg_b.out; have := hIe.lt; omega); have Kg : KpN w wg := ((Ke.trans hk_b).then ks_wg fun i hi (e : i = b) => by omega); have hIg := (hIe.kp hk_b (fun h => h)).kp ks_wg hfb))
  go_ret
  exact ⟨rfl, Kg.below (fun _ _ h => h.elim) (Nat.le_refl _)⟩
set_option maxHeartbeats 8000000 in
set_option maxRecDepth 100000 in
theorem tmaskE_yes (m : Int) (A : Option Addr) (c : Nat) (l : Nat) (xs : List WR) (n : Nat) (u : Nat) (w : World) (hC : Kd.C k68 w A xs.length xs) (hx : wrOk xs) (hl : U l) (hb : bgOk m xs.length) (hq0 : ∀ S, bgF m xs l = S → nextN S = (n : Int)) (hd0 : ∀ S, bgF m xs l = S → delegW S n true = true) (hm0 : ∀ S : VS, bgF m xs l = S → S.m ≠ 3) (ha0 : ∀ S, bgF m xs l = S → nextN (entS S n 0 true 4096) = (u : Int)) :
    Calls Try.prog 5 #[.agg (startC m A xs.length c (l : Int))] w fun e w' => e = .returned (.bool true) ∧ Below w.heap.size w w' := by
  have Hb := Aside0.mk hb
  have hRel := Rel.bg hx m l
  have hF : (bgF m xs l).ok := bgF_ok hx hl m
  have hR : (bgR m xs l).ok := bgR_ok hx hl m
  obtain ⟨S, hS⟩ : ∃ S, bgF m xs l = S := ⟨_, rfl⟩
  obtain ⟨R, hRR⟩ : ∃ R, bgR m xs l = R := ⟨_, rfl⟩
  have hmS : S.m = m := by rw [← hS]; rfl
  rw [hS] at hF hRel
  rw [hRR] at hR hRel
  have by_ := fun w hC => begun_yes m A c l xs w Hb.out hC hx hl
  rw [hS, hRR] at by_
  have By := Aside0.mk by_
  have HmS := Aside0.mk hmS
  have hS0 := hS
  have hRR0 := hRR
  clear by_ hS hRR hb hmS
  have hMo := (bg_mode (xs := xs) (l := l) Hb.out)
  rw [hS0, hRR0] at hMo
  have hq := hq0 S hS0
  have hd := hd0 S hS0
  have hm := hm0 S hS0
  obtain ⟨n63, hpb, hmb, h3⟩ := next_bit hF (show 0 ≤ nextN S by omega)
  rw [hq] at n63 hpb hmb
  have hn : n < 64 := by omega
  have N1 : Aside0 (∀ (g : Nat) W, St FT W g S → Calls Try.prog 17 #[.pointer (some ⟨g, 0, none⟩)] W fun e w' => e = .returned (.tuple #[.agg (trapC n 0 true), .bool true]) ∧ KpN W w') := ⟨fun g W h => by
    have := next_c g S W h hF hMo.1; rw [nextC_eq, show nextB S = decide (0 ≤ nextN S) from rfl, hq, nC_yes (by omega), decide_eq_true (by omega)] at this; exact this⟩
  have D1 : Aside0 (∀ (g : Nat) W, St FT W g S → Calls Try.prog 12 #[.pointer (some ⟨g, 0, none⟩), .agg (trapC n 0 true)] W fun e w' => e = .returned (.bool true) ∧ KpN W w') := ⟨fun g W h => by have := deleg_c g S n 0 true W h hF hn; rw [hd] at this; exact this⟩
  have PD : Aside0 (∀ (g : Nat) W, St FT W g S → Calls Try.prog 19 #[.pointer (some ⟨g, 0, none⟩)] W fun e w' => e = .returned (.int .u64 ((pendW S : Nat) : Int)) ∧ ∃ m, w' = W.drewN m) := ⟨fun g W h => pending_c g S W h hF⟩
  have okE : (entS S n 0 true 4096).ok := setW_ok (setW_ok (setW_ok (ent0_ok hF hn U.num U.num true 17 16 18) (by decide) _) (by decide) _) (by decide) _
  have E1 : Aside0 (∀ (g : Nat) W, St FT W g S → Calls Try.prog 15 #[.pointer (some ⟨g, 0, none⟩), .agg (trapC n 0 true), .int .u64 4096] W fun e w' => e = .returned (.int .u64 ((targetW (S.r 13) n true : Nat) : Int)) ∧ St FT w' g (entS S n 0 true 4096) ∧ KpG W w' g) := ⟨fun g W h => enter_s g S n 0 true 4096 W h hF hn U.num U.num hd⟩
  have mE : modeOk (entS S n 0 true 4096) := .inr (.inl rfl)
  have ha := ha0 S hS0
  have hag := again_s S hF n 0 true 4096 (by omega)
  rw [ha] at hag
  have D2 : Aside0 (∀ (g : Nat) W, St FT W g (entS S n 0 true 4096) → Calls Try.prog 12 #[.pointer (some ⟨g, 0, none⟩), .agg (trapC u 0 true)] W fun e w' => e = .returned (.bool false) ∧ KpN W w') := ⟨fun g W h => by
    have := deleg_c g _ u 0 true W h okE (by omega)
    have q : delegW (entS S n 0 true 4096) u true = false := by
      unfold delegW; rw [if_neg (show ¬ (entS S n 0 true 4096).m = 3 from by show ¬ (1 : Int) = 3; decide), if_pos rfl]; exact hag.2
    rw [q] at this; exact this⟩
  generalize entS S n 0 true 4096 = E at *
  have N2 : Aside0 (∀ (g : Nat) W, St FT W g E → Calls Try.prog 17 #[.pointer (some ⟨g, 0, none⟩)] W fun e w' => e = .returned (.tuple #[.agg (trapC u 0 true), .bool true]) ∧ KpN W w') := ⟨fun g W h => by
    have := next_c g E W h okE mE; rw [nextC_eq, show nextB E = decide (0 ≤ nextN E) from rfl, ha, nC_yes (by omega), decide_eq_true (by omega)] at this; exact this⟩
  have t1 : decide ((n : Int) < 0) = false := decide_eq_false (by omega)
  have t2 : decide (63 < (n : Int)) = false := decide_eq_false (by omega)
  have t2b : decide (63 < n) = false := decide_eq_false (by omega)
  have s1 := shr_bit (pend_ok hF) (mask_bit (pend_ok hF) hn hpb)
  have s2 := shr_bit (hF 4) (mask_bit (hF 4) hn hmb)
  have t3 : (S.m == 3) = false := beq_eq_false_iff_ne.2 hm
  clear hq hq0 hd hd0 hm hm0 hMo hS0 hRR0 h3 hpb hmb mE okE ha ha0 hag hRel
  go_enter Try.func5, Try.ntmps5
  go_wp2_with (first
    | ((with_reducible refine gate_dst (N := 1) rfl ?_); refine bx_ev rfl rfl (N := 1) rfl (startC m A xs.length c (l : Int)) rfl ?_; intro g hg_g w1 hb_g hk_g; have Hg_g := Aside0.mk hg_g; clear hg_g)
    | (go_at_call 9; refine (awake9_c _).mono ?_; rintro e w2 ⟨rfl, hk2⟩; have hG2 := (Bk.mk hb_g).kp hk2 (fun h => h); have hC2 : Kd.C k68 w2 A xs.length xs := Kd.C_below hC ((hk_g.trans hk2).below (fun _ _ h => h.elim) (Nat.le_refl _)))
    | ((with_reducible refine gate_dst (N := 14) rfl ?_); refine wpList_load_row rfl 25 _ rfl g rfl _ (startC m A xs.length c (l : Int)) (0, 0) _ (hG2.blk) Try.underlying25 rfl infoS ?_)
    | (go_at_call 10; refine ((By.out _ hC2)).mono ?_; rintro e w3 ⟨rfl, hk3⟩)
    | ((with_reducible refine gate_dst (N := 3) rfl ?_); refine al_ev rfl rfl (N := 3) rfl _ (zeroF _) ?_; intro f hg_f w4 hb_f hk_f; have Hg_f := Aside0.mk hg_f; clear hg_f)
    | ((with_reducible refine gate_dst (N := 4) rfl ?_); refine al_ev rfl rfl (N := 4) rfl _ (zeroR _) ?_; intro p hg_p w5 hb_p hk_p; have Hg_p := Aside0.mk hg_p; clear hg_p)
    | (((with_reducible refine gate_store (t := 31) (p := 3) rfl ?_); refine st_ev rfl rfl rfl f (S.cells) _ _ rfl rfl (((Bk.mk hb_f).kp hk_p (fun h => h)).blk) infoF rfl (VS.one _) ?_; intro w6 hs_w6 ks_w6); have hpf : p ≠ f := (by have := Hg_p.out; have := blk_lt hb_f; omega); have hP6 := (Bk.mk hb_p).kp ks_w6 hpf)
    | (((with_reducible refine gate_store (t := 34) (p := 4) rfl ?_); refine st_ev rfl rfl rfl p (R.cells) _ _ rfl rfl (hP6.blk) infoR rfl (VS.one _) ?_; intro w7 hs_w7 ks_w7); have hI : St FT w7 f S := (St.mk hs_w6).kp ks_w7 (fun e : f = p => hpf e.symm); have hP : St RT w7 p R := St.mk hs_w7; have hfw : w.heap.size ≤ f := (by have := Hg_f.out; have := ((hk_g.trans hk2).trans hk3).size; omega); have hpw : w.heap.size ≤ p := (by have := Hg_p.out; have := (((hk_g.trans hk2).trans hk3).trans hk_f).size; omega); have K7 : KpN w w7 := ((((((hk_g.trans hk2).trans hk3).trans hk_f).trans hk_p).then ks_w6 fun i hi (e : i = f) => by omega).then ks_w7 fun i hi (e : i = p) => by omega); clear hb_g hk_g Hg_g hk2 hG2 hC2 hk3 hb_f hk_f Hg_f hb_p hk_p Hg_p hs_w6 ks_w6 hP6 hs_w7 ks_w7))
  refine (N1.out f _ hI).mono ?_
  rintro e w8 ⟨rfl, k8⟩
  have hI8 := hI.kp k8 (fun h => h)
  have K8 := K7.trans k8
  clear hI hP k8 K7
  have c0 := hI8.c0
  have c4 := hI8.c 4
  go_wp2_with (first
    | ((with_reducible refine gate_dst (N := 6) rfl ?_); refine al_ev rfl rfl (N := 6) rfl _ (zeroT _) ?_; intro a hg_a w9 hb_a hk_a; have Hg_a := Aside0.mk hg_a; clear hg_a)
    | (((with_reducible refine gate_store (t := 27) (p := 6) rfl ?_); refine st_ev rfl rfl rfl a (trapC n 0 true) _ _ rfl rfl (hb_a) infoT rfl (trapC_one _ _ _) ?_; intro wa hs_wa ks_wa); have hwa : w.heap.size ≤ a := (by have := Hg_a.out; have := K8.size; omega); have hfa : f ≠ a := (by have := Hg_a.out; have := hI8.lt; omega); have Ka : KpN w wa := ((K8.trans hk_a).then ks_wa fun i hi (e : i = a) => by omega); have hIa := (hI8.kp hk_a (fun h => h)).kp ks_wa hfa; have hAa := Bk.mk hs_wa; have t0 := tr_c0 hAa; have u2 := tr_c2 hAa; have d0 := hIa.c0; have d4 := hIa.c 4))
  have cPD := rg_calls (w := wa) fun W hW => (PD.out f W (hIa.kp hW (fun h => h))).mono fun _ _ q => ⟨q.1, by obtain ⟨k, hk⟩ := q.2; rw [hk]; exact (Kp.refl _ _).drewN _⟩
  have k0 := cell_regrown t0
  have k2 := cell_regrown u2
  have k3 := cell_regrown d0
  have k4 := cell_regrown d4
  clear t0 u2 d0 d4
  refine wp_region_quiet_below (by kernel_rfl) (by kernel_rfl) ?_
  repeat (quiet_step (first | with_reducible exact cPD _ _))
  refine wpQuiet_nil ?_
  intro wb hwb
  replace hwb : Rg wa wb := hwb
  have hIb := hIa.kp hwb.kp (fun h => h)
  have hAb := hAa.kp hwb.kp (fun h => h)
  have Kb := Ka.trans hwb.kp
  clear hI8 K8 hb_a hk_a Hg_a hs_wa ks_wa hIa hAa Ka hwb k0 k2 k3 k4 cPD c0 c4
  go_wp2_with (first
    | ((with_reducible refine gate_dst (N := 69) rfl ?_); refine wpList_load_row rfl 27 _ rfl a rfl _ (trapC n 0 true) (0, 0) _ (hAb.blk) Try.underlying27 rfl infoT ?_)
    | (go_at_call 12; (with_reducible refine (D1.out f _ hIb).mono ?_); rintro e wc ⟨rfl, kc⟩; have hIc := hIb.kp kc (fun h => h); have hAc := hAb.kp kc (fun h => h); have Kc := Kb.trans kc)
    | ((with_reducible refine gate_dst (N := 71) rfl ?_); refine wpList_load_row rfl 27 _ rfl a rfl _ (trapC n 0 true) (0, 0) _ (hAc.blk) Try.underlying27 rfl infoT ?_)
    | (go_at_call 15; refine (E1.out f _ hIc).mono ?_; rintro e wd ⟨rfl, hId, kd⟩; have Kd : KpN w wd := (Kc.then kd fun i hi (e : i = f) => by omega))
    | (go_at_call 17; refine (N2.out f _ hId).mono ?_; rintro e we ⟨rfl, ke⟩; have hIe := hId.kp ke (fun h => h); have Ke := Kd.trans ke)
    | ((with_reducible refine gate_dst (N := 9) rfl ?_); refine al_ev rfl rfl (N := 9) rfl _ (zeroT _) ?_; intro b hg_b wf hb_b hk_b; have Hg_b := Aside0.mk hg_b; clear hg_b)
    | (((with_reducible refine gate_store (t := 27) (p := 9) rfl ?_); refine st_ev rfl rfl rfl b (trapC u 0 true) _ _ rfl rfl (hb_b) infoT rfl (trapC_one _ _ _) ?_; intro wg hs_wg ks_wg); have hwb : w.heap.size ≤ b := (by have := Hg_b.out; have := Ke.size; omega); have hfb : f ≠ b := (by have := Hg_b.out; have := hIe.lt; omega); have Kg : KpN w wg := ((Ke.trans hk_b).then ks_wg fun i hi (e : i = b) => by omega); have hIg := (hIe.kp hk_b (fun h => h)).kp ks_wg hfb)
    | ((with_reducible refine gate_dst (N := 82) rfl ?_); refine wpList_in (by rfl) (wp_load_row 27 _ rfl b rfl _ (trapC u 0 true) (0, 0) _ (hs_wg) Try.underlying27 rfl infoT ?_))
    | (go_at_call 12; (with_reducible refine (D2.out f _ hIg).mono ?_); rintro e wh ⟨rfl, kh⟩))
  go_ret
  exact ⟨rfl, (Kg.trans kh).below (fun _ _ h => h.elim) (Nat.le_refl _)⟩
theorem tmask_yes (m : Int) (A : Option Addr) (c : Nat) (l : Nat) (xs : List WR) (w : World) (hC : Kd.C k68 w A xs.length xs) (hx : wrOk xs) (hl : U l) (hb : bgOk m xs.length) :
    Calls Try.prog 5 #[.agg (startC m A xs.length c (l : Int))] w fun e w' => e = .returned (.bool true) ∧ Below w.heap.size w w' := by
  by_cases hq : nextN (bgF m xs l) < 0
  · exact tmaskA_yes m A c l xs w hC hx hl hb (fun S e => e ▸ hq)
  obtain ⟨n, hn⟩ : ∃ n : Nat, nextN (bgF m xs l) = (n : Int) := ⟨(nextN (bgF m xs l)).toNat, by omega⟩
  cases hd : delegW (bgF m xs l) n true
  · by_cases hm : (bgF m xs l).m = 3
    · exact tmaskB_yes m A c l xs n w hC hx hl hb (fun S e => e ▸ hn) (fun S e => e ▸ hd) (fun S e => e ▸ hm)
    · exact tmaskC_yes m A c l xs n w hC hx hl hb (fun S e => e ▸ hn) (fun S e => e ▸ hd) (fun S e => e ▸ hm)
  · have hm : (bgF m xs l).m ≠ 3 := fun h => by unfold delegW at hd; rw [if_pos h] at hd; cases hd
    by_cases ha : nextN (entS (bgF m xs l) n 0 true 4096) < 0
    · exact tmaskD_yes m A c l xs n w hC hx hl hb (fun S e => e ▸ hn) (fun S e => e ▸ hd) (fun S e => e ▸ hm) (fun S e => e ▸ ha)
    · obtain ⟨u, hu⟩ : ∃ u : Nat, nextN (entS (bgF m xs l) n 0 true 4096) = (u : Int) := ⟨(nextN (entS (bgF m xs l) n 0 true 4096)).toNat, by omega⟩
      exact tmaskE_yes m A c l xs n u w hC hx hl hb (fun S e => e ▸ hn) (fun S e => e ▸ hd) (fun S e => e ▸ hm) (fun S e => e ▸ hu)
end Go.Proofs.Ytnknfepbekaobaa.H
