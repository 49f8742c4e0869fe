/- TrapBack, walked by hand: there and back. -/
import Derived.Test.YtnknfepbekaobaaTd
namespace Go.Proofs.Ytnknfepbekaobaa.H
open Go.RowKit Go.Proofs.YtnknfepbekaobaaW.PrintWords Go.Proofs.YtnknfepbekaobaaW.PrintLast Go.Proofs.Ytnknfepbekaobaa.PAl Go.Proofs.Ytnknfepbekaobaa.Pure Go.Proofs.Ytnknfepbekaobaa.Vw
set_option linter.unusedVariables false
set_option linter.unusedSimpArgs false
open Go.Sort
set_option maxHeartbeats 8000000 in
set_option maxRecDepth 100000 in
theorem tback_no (m : Int) (A : Option Addr) (c : Nat) (l : Nat) (xs : List WR) (tc : Int) (tv : Nat) (tb : Bool) (pc : Nat) (w : World) (hC : Kd.C k68 w A xs.length xs) (hb : ¬ bgOk m xs.length) :
    Calls Try.prog 7 #[.agg (startC m A xs.length c (l : Int)), .agg (trapC tc tv tb), .int .u64 (pc : Int)] w fun e w' => e = .returned (.bool true) ∧ Below w.heap.size w w' := by
  have Hb := Aside0.mk hb
  clear hb
  go_enter Try.func7, Try.ntmps7
  go_wp2_with (first
    | ((with_reducible refine gate_dst (N := 3) rfl ?_); refine bx_ev rfl rfl (N := 3) rfl (startC m A xs.length c (l : Int)) rfl ?_; intro g hg_g w1 hb_g hk_g; have Hg_g := Aside0.mk hg_g; clear hg_g)
    | (((with_reducible refine gate_dst (N := 4) rfl ?_); refine bx_ev rfl rfl (N := 4) rfl (trapC tc tv tb) rfl ?_; intro k hg_k wk hb_k hk_k; have Hg_k := Aside0.mk hg_k; clear hg_k); have hGk := (Bk.mk hb_g).kp hk_k (fun h => h); have Kk : KpN w wk := hk_g.trans hk_k; have hkw : w.heap.size ≤ k := (by have := Hg_k.out; have := hk_g.size; omega))
    | (go_at_call 9; refine (awake9_c _).mono ?_; rintro e w2 ⟨rfl, hk2⟩; have hG2 := hGk.kp hk2 (fun h => h); have hT2 := (Bk.mk hb_k).kp hk2 (fun h => h); have K2 := Kk.trans hk2; have hC2 : Kd.C k68 w2 A xs.length xs := Kd.C_below hC (K2.below (fun _ _ h => h.elim) (Nat.le_refl _)))
    | ((with_reducible refine gate_dst (N := 20) rfl ?_); refine wpList_load_row rfl 25 _ rfl g rfl _ (startC m A xs.length c (l : Int)) (0, 0) _ (hG2.blk) Try.underlying25 rfl infoS ?_)
    | (go_at_call 10; refine ((begun_no m A c l xs _ Hb.out)).mono ?_; rintro e w3 ⟨rfl, hk3⟩)
    | ((with_reducible refine gate_dst (N := 7) rfl ?_); refine al_ev rfl rfl (N := 7) rfl _ (zeroF _) ?_; intro f hg_f w4 hb_f hk_f; have Hg_f := Aside0.mk hg_f; clear hg_f)
    | ((with_reducible refine gate_dst (N := 8) rfl ?_); refine al_ev rfl rfl (N := 8) rfl _ (zeroR _) ?_; intro p hg_p w5 hb_p hk_p; have Hg_p := Aside0.mk hg_p; clear hg_p)
    | (((with_reducible refine gate_store (t := 31) (p := 7) rfl ?_); refine st_ev rfl rfl rfl f (vs0.cells) _ _ rfl rfl (((Bk.mk hb_f).kp hk_p (fun h => h)).blk) infoF rfl (VS.one _) ?_; intro w6 hs_w6 ks_w6); have hpf : p ≠ f := (by have := Hg_p.out; have := blk_lt hb_f; omega); have hP6 := (Bk.mk hb_p).kp ks_w6 hpf)
    | (((with_reducible refine gate_store (t := 34) (p := 8) rfl ?_); refine st_ev rfl rfl rfl p (vs0.cells) _ _ rfl rfl (hP6.blk) infoR rfl (VS.one _) ?_; intro w7 hs_w7 ks_w7); have hI : St FT w7 f vs0 := (St.mk hs_w6).kp ks_w7 (fun e : f = p => hpf e.symm); have hP : St RT w7 p vs0 := St.mk hs_w7; have hfw : w.heap.size ≤ f := (by have := Hg_f.out; have := (K2.trans hk3).size; omega); have hpw : w.heap.size ≤ p := (by have := Hg_p.out; have := ((K2.trans hk3).trans hk_f).size; omega); have hkf : k ≠ f := (by have := Hg_f.out; have := (hk3).size; have := blk_lt hT2.blk; omega); have hkp : k ≠ p := (by have := Hg_p.out; have := hk_f.size; have := hk3.size; have := blk_lt hT2.blk; omega); have hT := ((((hT2.kp hk3 (fun h => h)).kp hk_f (fun h => h)).kp hk_p (fun h => h)).kp ks_w6 hkf).kp ks_w7 hkp; have K7 : KpN w w7 := (((((K2.trans hk3).trans hk_f).trans hk_p).then ks_w6 fun i hi (e : i = f) => by omega).then ks_w7 fun i hi (e : i = p) => by omega); clear hb_g hk_g Hg_g hk2 hG2 hC2 hk3 hb_f hk_f Hg_f hb_p hk_p Hg_p hs_w6 ks_w6 hP6 hs_w7 ks_w7 hGk Kk hT2 K2 hb_k hk_k Hg_k))
  go_ret
  exact ⟨rfl, K7.below (fun _ _ h => h.elim) (Nat.le_refl _)⟩
set_option maxHeartbeats 8000000 in
set_option maxRecDepth 100000 in
theorem tback_bad (m : Int) (A : Option Addr) (c : Nat) (l : Nat) (xs : List WR) (tc : Int) (tv : Nat) (tb : Bool) (pc : Nat) (w : World) (hC : Kd.C k68 w A xs.length xs) (hx : wrOk xs) (hl : U l) (hb : bgOk m xs.length) (hr : rightB tc = false) :
    Calls Try.prog 7 #[.agg (startC m A xs.length c (l : Int)), .agg (trapC tc tv tb), .int .u64 (pc : Int)] w fun e w' => e = .returned (.bool true) ∧ Below w.heap.size w w' := by
  have Hb := Aside0.mk hb
  have hRel := Rel.bg hx m l
  have hF : (bgF m xs l).ok := bgF_ok hx hl m
  have hR : (bgR m xs l).ok := bgR_ok hx hl m
  have hMo := (bg_mode (xs := xs) (l := l) hb)
  obtain ⟨S, hS⟩ : ∃ S, bgF m xs l = S := ⟨_, rfl⟩
  obtain ⟨R, hRR⟩ : ∃ R, bgR m xs l = R := ⟨_, rfl⟩
  rw [hS] at hF hRel hMo
  rw [hRR] at hR hRel hMo
  have by_ := fun w hC => begun_yes m A c l xs w Hb.out hC hx hl
  rw [hS, hRR] at by_
  have By := Aside0.mk by_
  clear by_ hS hRR hb
  have RB : Aside0 (∀ W, Calls Try.prog 11 #[.agg (trapC tc tv tb)] W fun e w' => e = .returned (.bool false) ∧ KpN W w') := ⟨fun W => by have := right_c tc tv tb W; rw [hr] at this; exact this⟩
  clear hr hMo hRel
  go_enter Try.func7, Try.ntmps7
  go_wp2_with (first
    | ((with_reducible refine gate_dst (N := 3) rfl ?_); refine bx_ev rfl rfl (N := 3) rfl (startC m A xs.length c (l : Int)) rfl ?_; intro g hg_g w1 hb_g hk_g; have Hg_g := Aside0.mk hg_g; clear hg_g)
    | (((with_reducible refine gate_dst (N := 4) rfl ?_); refine bx_ev rfl rfl (N := 4) rfl (trapC tc tv tb) rfl ?_; intro k hg_k wk hb_k hk_k; have Hg_k := Aside0.mk hg_k; clear hg_k); have hGk := (Bk.mk hb_g).kp hk_k (fun h => h); have Kk : KpN w wk := hk_g.trans hk_k; have hkw : w.heap.size ≤ k := (by have := Hg_k.out; have := hk_g.size; omega))
    | (go_at_call 9; refine (awake9_c _).mono ?_; rintro e w2 ⟨rfl, hk2⟩; have hG2 := hGk.kp hk2 (fun h => h); have hT2 := (Bk.mk hb_k).kp hk2 (fun h => h); have K2 := Kk.trans hk2; have hC2 : Kd.C k68 w2 A xs.length xs := Kd.C_below hC (K2.below (fun _ _ h => h.elim) (Nat.le_refl _)))
    | ((with_reducible refine gate_dst (N := 20) rfl ?_); refine wpList_load_row rfl 25 _ rfl g rfl _ (startC m A xs.length c (l : Int)) (0, 0) _ (hG2.blk) Try.underlying25 rfl infoS ?_)
    | (go_at_call 10; refine ((By.out _ hC2)).mono ?_; rintro e w3 ⟨rfl, hk3⟩)
    | ((with_reducible refine gate_dst (N := 7) rfl ?_); refine al_ev rfl rfl (N := 7) rfl _ (zeroF _) ?_; intro f hg_f w4 hb_f hk_f; have Hg_f := Aside0.mk hg_f; clear hg_f)
    | ((with_reducible refine gate_dst (N := 8) rfl ?_); refine al_ev rfl rfl (N := 8) rfl _ (zeroR _) ?_; intro p hg_p w5 hb_p hk_p; have Hg_p := Aside0.mk hg_p; clear hg_p)
    | (((with_reducible refine gate_store (t := 31) (p := 7) rfl ?_); refine st_ev rfl rfl rfl f (S.cells) _ _ rfl rfl (((Bk.mk hb_f).kp hk_p (fun h => h)).blk) infoF rfl (VS.one _) ?_; intro w6 hs_w6 ks_w6); have hpf : p ≠ f := (by have := Hg_p.out; have := blk_lt hb_f; omega); have hP6 := (Bk.mk hb_p).kp ks_w6 hpf)
    | (((with_reducible refine gate_store (t := 34) (p := 8) rfl ?_); refine st_ev rfl rfl rfl p (R.cells) _ _ rfl rfl (hP6.blk) infoR rfl (VS.one _) ?_; intro w7 hs_w7 ks_w7); have hI : St FT w7 f S := (St.mk hs_w6).kp ks_w7 (fun e : f = p => hpf e.symm); have hP : St RT w7 p R := St.mk hs_w7; have hfw : w.heap.size ≤ f := (by have := Hg_f.out; have := (K2.trans hk3).size; omega); have hpw : w.heap.size ≤ p := (by have := Hg_p.out; have := ((K2.trans hk3).trans hk_f).size; omega); have hkf : k ≠ f := (by have := Hg_f.out; have := (hk3).size; have := blk_lt hT2.blk; omega); have hkp : k ≠ p := (by have := Hg_p.out; have := hk_f.size; have := hk3.size; have := blk_lt hT2.blk; omega); have hT := ((((hT2.kp hk3 (fun h => h)).kp hk_f (fun h => h)).kp hk_p (fun h => h)).kp ks_w6 hkf).kp ks_w7 hkp; have K7 : KpN w w7 := (((((K2.trans hk3).trans hk_f).trans hk_p).then ks_w6 fun i hi (e : i = f) => by omega).then ks_w7 fun i hi (e : i = p) => by omega); clear hb_g hk_g Hg_g hk2 hG2 hC2 hk3 hb_f hk_f Hg_f hb_p hk_p Hg_p hs_w6 ks_w6 hP6 hs_w7 ks_w7 hGk Kk hT2 K2 hb_k hk_k Hg_k)
    | ((with_reducible refine gate_dst (N := 28) rfl ?_); refine wpList_in (by rfl) (wp_load_row 27 _ rfl k rfl _ (trapC tc tv tb) (0, 0) _ (hT.blk) Try.underlying27 rfl infoT ?_))
    | (go_at_call 11; refine (RB.out _).mono ?_; rintro e w8 ⟨rfl, k8⟩))
  go_ret
  exact ⟨rfl, (K7.trans k8).below (fun _ _ h => h.elim) (Nat.le_refl _)⟩
set_option maxHeartbeats 8000000 in
set_option maxRecDepth 100000 in
theorem tback_t (m : Int) (A : Option Addr) (c : Nat) (l : Nat) (xs : List WR) (tc : Int) (tv : Nat) (tb : Bool) (pc : Nat) (w : World) (hC : Kd.C k68 w A xs.length xs) (hx : wrOk xs) (hl : U l) (hb : bgOk m xs.length) (hv : U tv) (hp : U pc) (hr : rightB tc = true) (hdq : ∀ S, bgF m xs l = S → delegW S tc.toNat tb = true) (htq : ∀ S, bgF m xs l = S → bitW (S.r 1) 22 = true) :
    Calls Try.prog 7 #[.agg (startC m A xs.length c (l : Int)), .agg (trapC tc tv tb), .int .u64 (pc : Int)] w fun e w' => e = .returned (.bool true) ∧ Below w.heap.size w w' := by
  have Hb := Aside0.mk hb
  have hRel := Rel.bg hx m l
  have hF : (bgF m xs l).ok := bgF_ok hx hl m
  have hR : (bgR m xs l).ok := bgR_ok hx hl m
  have hMo := (bg_mode (xs := xs) (l := l) hb)
  obtain ⟨S, hS⟩ : ∃ S, bgF m xs l = S := ⟨_, rfl⟩
  obtain ⟨R, hRR⟩ : ∃ R, bgR m xs l = R := ⟨_, rfl⟩
  rw [hS] at hF hRel hMo
  rw [hRR] at hR hRel hMo
  have by_ := fun w hC => begun_yes m A c l xs w Hb.out hC hx hl
  rw [hS, hRR] at by_
  have By := Aside0.mk by_
  have hd0 := hdq S hS
  have ht0 := htq S hS
  clear hdq htq
  clear by_ hS hRR hb
  obtain ⟨n, rfl, hn⟩ : ∃ n : Nat, tc = (n : Int) ∧ n < 64 := by
    unfold rightB at hr
    rw [Bool.and_eq_true] at hr
    have h1 := of_decide_eq_true hr.1
    have h2 := of_decide_eq_true hr.2
    exact ⟨tc.toNat, by omega, by omega⟩
  rw [Int.toNat_natCast] at hd0
  have RB : Aside0 (∀ W, Calls Try.prog 11 #[.agg (trapC n tv tb)] W fun e w' => e = .returned (.bool true) ∧ KpN W w') := ⟨fun W => by have := right_c n tv tb W; rw [hr] at this; exact this⟩
  have hd : delegW S n tb = true := hd0
  obtain ⟨q, hq, hqm⟩ : ∃ q : Nat, q ≤ 3 ∧ S.m = (q : Int) := by
    rcases hMo.1 with h | h | h
    · exact ⟨0, by decide, h⟩
    · exact ⟨1, by decide, h⟩
    · exact ⟨3, by decide, h⟩
  have D1 : Aside0 (∀ (g : Nat) W, St FT W g S → Calls Try.prog 12 #[.pointer (some ⟨g, 0, none⟩), .agg (trapC n tv tb)] W fun e w' => e = .returned (.bool true) ∧ KpN W w') := ⟨fun g W h => by have := deleg_c g S n tv tb W h hF hn; rw [hd] at this; exact this⟩
  have I3 : Aside0 (∀ (g : Nat) W, St FT W g S → Calls Try.prog 20 #[.pointer (some ⟨g, 0, none⟩), .int .i64 3] W fun e w' => e = .returned (.bool (bitW (S.r 1) 3)) ∧ ∃ m, w' = W.drewN m) := ⟨fun g W h => is_c g S 3 W h hF⟩
  have I1 : Aside0 (∀ (g : Nat) W, St FT W g S → Calls Try.prog 20 #[.pointer (some ⟨g, 0, none⟩), .int .i64 1] W fun e w' => e = .returned (.bool (bitW (S.r 1) 1)) ∧ ∃ m, w' = W.drewN m) := ⟨fun g W h => is_c g S 1 W h hF⟩
  have ep : bits .andNot .u64 (pc : Int) 3 = ((minus pc 3 : Nat) : Int) := minus_l hp
  have I22 : Aside0 (∀ (g : Nat) W, St FT W g S → Calls Try.prog 20 #[.pointer (some ⟨g, 0, none⟩), .int .i64 22] W fun e w' => e = .returned (.bool true) ∧ ∃ m, w' = W.drewN m) := ⟨fun g W h => by have := is_c g S 22 W h hF; rw [ht0] at this; exact this⟩
  generalize bitW (S.r 1) 1 = v1 at I1
  generalize bitW (S.r 1) 3 = v3 at I3
  clear hr hd hd0 hq hqm hMo hRel ht0
  go_enter Try.func7, Try.ntmps7
  go_wp2_with (first
    | ((with_reducible refine gate_dst (N := 3) rfl ?_); refine bx_ev rfl rfl (N := 3) rfl (startC m A xs.length c (l : Int)) rfl ?_; intro g hg_g w1 hb_g hk_g; have Hg_g := Aside0.mk hg_g; clear hg_g)
    | (((with_reducible refine gate_dst (N := 4) rfl ?_); refine bx_ev rfl rfl (N := 4) rfl (trapC n tv tb) rfl ?_; intro k hg_k wk hb_k hk_k; have Hg_k := Aside0.mk hg_k; clear hg_k); have hGk := (Bk.mk hb_g).kp hk_k (fun h => h); have Kk : KpN w wk := hk_g.trans hk_k; have hkw : w.heap.size ≤ k := (by have := Hg_k.out; have := hk_g.size; omega))
    | (go_at_call 9; refine (awake9_c _).mono ?_; rintro e w2 ⟨rfl, hk2⟩; have hG2 := hGk.kp hk2 (fun h => h); have hT2 := (Bk.mk hb_k).kp hk2 (fun h => h); have K2 := Kk.trans hk2; have hC2 : Kd.C k68 w2 A xs.length xs := Kd.C_below hC (K2.below (fun _ _ h => h.elim) (Nat.le_refl _)))
    | ((with_reducible refine gate_dst (N := 20) rfl ?_); refine wpList_load_row rfl 25 _ rfl g rfl _ (startC m A xs.length c (l : Int)) (0, 0) _ (hG2.blk) Try.underlying25 rfl infoS ?_)
    | (go_at_call 10; refine ((By.out _ hC2)).mono ?_; rintro e w3 ⟨rfl, hk3⟩)
    | ((with_reducible refine gate_dst (N := 7) rfl ?_); refine al_ev rfl rfl (N := 7) rfl _ (zeroF _) ?_; intro f hg_f w4 hb_f hk_f; have Hg_f := Aside0.mk hg_f; clear hg_f)
    | ((with_reducible refine gate_dst (N := 8) rfl ?_); refine al_ev rfl rfl (N := 8) rfl _ (zeroR _) ?_; intro p hg_p w5 hb_p hk_p; have Hg_p := Aside0.mk hg_p; clear hg_p)
    | (((with_reducible refine gate_store (t := 31) (p := 7) rfl ?_); refine st_ev rfl rfl rfl f (S.cells) _ _ rfl rfl (((Bk.mk hb_f).kp hk_p (fun h => h)).blk) infoF rfl (VS.one _) ?_; intro w6 hs_w6 ks_w6); have hpf : p ≠ f := (by have := Hg_p.out; have := blk_lt hb_f; omega); have hP6 := (Bk.mk hb_p).kp ks_w6 hpf)
    | (((with_reducible refine gate_store (t := 34) (p := 8) rfl ?_); refine st_ev rfl rfl rfl p (R.cells) _ _ rfl rfl (hP6.blk) infoR rfl (VS.one _) ?_; intro w7 hs_w7 ks_w7); have hI : St FT w7 f S := (St.mk hs_w6).kp ks_w7 (fun e : f = p => hpf e.symm); have hP : St RT w7 p R := St.mk hs_w7; have hfw : w.heap.size ≤ f := (by have := Hg_f.out; have := (K2.trans hk3).size; omega); have hpw : w.heap.size ≤ p := (by have := Hg_p.out; have := ((K2.trans hk3).trans hk_f).size; omega); have hkf : k ≠ f := (by have := Hg_f.out; have := (hk3).size; have := blk_lt hT2.blk; omega); have hkp : k ≠ p := (by have := Hg_p.out; have := hk_f.size; have := hk3.size; have := blk_lt hT2.blk; omega); have hT := ((((hT2.kp hk3 (fun h => h)).kp hk_f (fun h => h)).kp hk_p (fun h => h)).kp ks_w6 hkf).kp ks_w7 hkp; have K7 : KpN w w7 := (((((K2.trans hk3).trans hk_f).trans hk_p).then ks_w6 fun i hi (e : i = f) => by omega).then ks_w7 fun i hi (e : i = p) => by omega); clear hb_g hk_g Hg_g hk2 hG2 hC2 hk3 hb_f hk_f Hg_f hb_p hk_p Hg_p hs_w6 ks_w6 hP6 hs_w7 ks_w7 hGk Kk hT2 K2 hb_k hk_k Hg_k)
    | ((with_reducible refine gate_dst (N := 28) rfl ?_); refine wpList_in (by rfl) (wp_load_row 27 _ rfl k rfl _ (trapC n tv tb) (0, 0) _ (hT.blk) Try.underlying27 rfl infoT ?_))
    | (go_at_call 11; refine (RB.out _).mono ?_; rintro e w8 ⟨rfl, k8⟩))
  have hI8 := hI.kp k8 (fun h => h)
  have hT8 := hT.kp k8 (fun h => h)
  have K8 := K7.trans k8
  have c0 := hI8.c0
  clear hI hP hT K7 k8
  go_quiet ((go_at_call 20; (first | with_reducible exact Calls.quiet_of (I3.out f _ (hI8.drewN _)) | with_reducible exact Calls.quiet_of (I1.out f _ (hI8.drewN _)))))
  go_wp2_with (first
    | ((with_reducible refine gate_dst (N := 36) rfl ?_); refine wpList_load_row rfl 27 _ rfl k rfl _ (trapC n tv tb) (0, 0) _ ((hT8.drewN _).blk) Try.underlying27 rfl infoT ?_)
    | (go_at_call 12; refine (D1.out f _ (hI8.drewN _)).mono ?_; rintro e w9 ⟨rfl, k9⟩; have hI9 := (hI8.drewN _).kp k9 (fun h => h); have hT9 := (hT8.drewN _).kp k9 (fun h => h); have K9 := (K8.drewN _).trans k9))
  refine (I22.out f _ hI9).mono ?_
  rintro e wa ⟨rfl, m9, rfl⟩
  go_wp2
  go_ret
  exact ⟨rfl, (K9.drewN _).below (fun _ _ h => h.elim) (Nat.le_refl _)⟩
set_option maxHeartbeats 8000000 in
set_option maxRecDepth 100000 in
theorem tback_s (m : Int) (A : Option Addr) (c : Nat) (l : Nat) (xs : List WR) (tc : Int) (tv : Nat) (tb : Bool) (pc : Nat) (w : World) (hC : Kd.C k68 w A xs.length xs) (hx : wrOk xs) (hl : U l) (hb : bgOk m xs.length) (hv : U tv) (hp : U pc) (hr : rightB tc = true) (hdq : ∀ S, bgF m xs l = S → delegW S tc.toNat tb = true) (htq : ∀ S, bgF m xs l = S → bitW (S.r 1) 22 = false) :
    Calls Try.prog 7 #[.agg (startC m A xs.length c (l : Int)), .agg (trapC tc tv tb), .int .u64 (pc : Int)] w fun e w' => e = .returned (.bool true) ∧ Below w.heap.size w w' := by
  have Hb := Aside0.mk hb
  have hRel := Rel.bg hx m l
  have hF : (bgF m xs l).ok := bgF_ok hx hl m
  have hR : (bgR m xs l).ok := bgR_ok hx hl m
  have hMo := (bg_mode (xs := xs) (l := l) hb)
  obtain ⟨S, hS⟩ : ∃ S, bgF m xs l = S := ⟨_, rfl⟩
  obtain ⟨R, hRR⟩ : ∃ R, bgR m xs l = R := ⟨_, rfl⟩
  rw [hS] at hF hRel hMo
  rw [hRR] at hR hRel hMo
  have by_ := fun w hC => begun_yes m A c l xs w Hb.out hC hx hl
  rw [hS, hRR] at by_
  have By := Aside0.mk by_
  have hd0 := hdq S hS
  have ht0 := htq S hS
  clear hdq htq
  clear by_ hS hRR hb
  obtain ⟨n, rfl, hn⟩ : ∃ n : Nat, tc = (n : Int) ∧ n < 64 := by
    unfold rightB at hr
    rw [Bool.and_eq_true] at hr
    have h1 := of_decide_eq_true hr.1
    have h2 := of_decide_eq_true hr.2
    exact ⟨tc.toNat, by omega, by omega⟩
  rw [Int.toNat_natCast] at hd0
  have RB : Aside0 (∀ W, Calls Try.prog 11 #[.agg (trapC n tv tb)] W fun e w' => e = .returned (.bool true) ∧ KpN W w') := ⟨fun W => by have := right_c n tv tb W; rw [hr] at this; exact this⟩
  have hd : delegW S n tb = true := hd0
  obtain ⟨q, hq, hqm⟩ : ∃ q : Nat, q ≤ 3 ∧ S.m = (q : Int) := by
    rcases hMo.1 with h | h | h
    · exact ⟨0, by decide, h⟩
    · exact ⟨1, by decide, h⟩
    · exact ⟨3, by decide, h⟩
  have D1 : Aside0 (∀ (g : Nat) W, St FT W g S → Calls Try.prog 12 #[.pointer (some ⟨g, 0, none⟩), .agg (trapC n tv tb)] W fun e w' => e = .returned (.bool true) ∧ KpN W w') := ⟨fun g W h => by have := deleg_c g S n tv tb W h hF hn; rw [hd] at this; exact this⟩
  have I3 : Aside0 (∀ (g : Nat) W, St FT W g S → Calls Try.prog 20 #[.pointer (some ⟨g, 0, none⟩), .int .i64 3] W fun e w' => e = .returned (.bool (bitW (S.r 1) 3)) ∧ ∃ m, w' = W.drewN m) := ⟨fun g W h => is_c g S 3 W h hF⟩
  have I1 : Aside0 (∀ (g : Nat) W, St FT W g S → Calls Try.prog 20 #[.pointer (some ⟨g, 0, none⟩), .int .i64 1] W fun e w' => e = .returned (.bool (bitW (S.r 1) 1)) ∧ ∃ m, w' = W.drewN m) := ⟨fun g W h => is_c g S 1 W h hF⟩
  have ep : bits .andNot .u64 (pc : Int) 3 = ((minus pc 3 : Nat) : Int) := minus_l hp
  have I22 : Aside0 (∀ (g : Nat) W, St FT W g S → Calls Try.prog 20 #[.pointer (some ⟨g, 0, none⟩), .int .i64 22] W fun e w' => e = .returned (.bool false) ∧ ∃ m, w' = W.drewN m) := ⟨fun g W h => by have := is_c g S 22 W h hF; rw [ht0] at this; exact this⟩
  have hm01 : S.m = 0 ∨ S.m = 1 := by
    rcases hMo.1 with h | h | h
    · exact .inl h
    · exact .inr h
    · exfalso; unfold delegW at hd; rw [if_pos h] at hd; cases hd
  obtain ⟨b0, b1, b2, b3, b4⟩ := back_s S hF n tv tb pc hm01 ht0
  have okE : (entS S n tv tb pc).ok := setW_ok (setW_ok (setW_ok (ent0_ok hF hn hv hp tb 17 16 18) (by decide) _) (by decide) _) (by decide) _
  have E1 : Aside0 (∀ (g : Nat) W, St FT W g S → Calls Try.prog 15 #[.pointer (some ⟨g, 0, none⟩), .agg (trapC n tv tb), .int .u64 (pc : Int)] W fun e w' => e = .returned (.int .u64 ((targetW (S.r 13) n tb : Nat) : Int)) ∧ St FT w' g (entS S n tv tb pc) ∧ KpG W w' g) := ⟨fun g W h => enter_s g S n tv tb pc W h hF hn hv hp hd⟩
  have X : Aside0 (∀ (g : Nat) W, St FT W g (entS S n tv tb pc) → Calls Try.prog 21 #[.pointer (some ⟨g, 0, none⟩)] W fun e w' => e = .returned (.tuple #[.int .u64 ((minus pc 3 : Nat) : Int), .bool true]) ∧ St FT w' g (sretS (entS S n tv tb pc)) ∧ KpG W w' g) := ⟨fun g W h => by
    have := sret_c g (entS S n tv tb pc) W h okE (.inr (.inl rfl)); rw [b0, if_pos rfl, if_pos rfl, b1] at this; exact this⟩
  have okT : (sretS (entS S n tv tb pc)).ok := setW_ok (setW_ok (setW_ok (setW_ok (show ((entS S n tv tb pc).mode _).ok from okE) (by decide) _) (by decide) _) (by decide) _) (by decide) _
  generalize hT0 : sretS (entS S n tv tb pc) = T at *
  generalize hE0 : entS S n tv tb pc = E at *
  clear hT0 hE0 b0 b1 hm01 okE
  have J1 : Aside0 (∀ (g : Nat) W, St FT W g T → Calls Try.prog 20 #[.pointer (some ⟨g, 0, none⟩), .int .i64 1] W fun e w' => e = .returned (.bool (bitW (S.r 1) 1)) ∧ ∃ m, w' = W.drewN m) := ⟨fun g W h => by have := is_c g T 1 W h okT; rw [b3] at this; exact this⟩
  have J3 : Aside0 (∀ (g : Nat) W, St FT W g T → Calls Try.prog 20 #[.pointer (some ⟨g, 0, none⟩), .int .i64 3] W fun e w' => e = .returned (.bool (bitW (S.r 1) 3)) ∧ ∃ m, w' = W.drewN m) := ⟨fun g W h => by have := is_c g T 3 W h okT; rw [b4] at this; exact this⟩
  have B2 := Aside0.mk b2
  generalize bitW (S.r 1) 1 = v1 at I1 J1
  generalize bitW (S.r 1) 3 = v3 at I3 J3
  clear b2 b3 b4 okT
  clear hr hd hd0 hq hqm hMo hRel ht0
  go_enter Try.func7, Try.ntmps7
  go_wp2_with (first
    | ((with_reducible refine gate_dst (N := 3) rfl ?_); refine bx_ev rfl rfl (N := 3) rfl (startC m A xs.length c (l : Int)) rfl ?_; intro g hg_g w1 hb_g hk_g; have Hg_g := Aside0.mk hg_g; clear hg_g)
    | (((with_reducible refine gate_dst (N := 4) rfl ?_); refine bx_ev rfl rfl (N := 4) rfl (trapC n tv tb) rfl ?_; intro k hg_k wk hb_k hk_k; have Hg_k := Aside0.mk hg_k; clear hg_k); have hGk := (Bk.mk hb_g).kp hk_k (fun h => h); have Kk : KpN w wk := hk_g.trans hk_k; have hkw : w.heap.size ≤ k := (by have := Hg_k.out; have := hk_g.size; omega))
    | (go_at_call 9; refine (awake9_c _).mono ?_; rintro e w2 ⟨rfl, hk2⟩; have hG2 := hGk.kp hk2 (fun h => h); have hT2 := (Bk.mk hb_k).kp hk2 (fun h => h); have K2 := Kk.trans hk2; have hC2 : Kd.C k68 w2 A xs.length xs := Kd.C_below hC (K2.below (fun _ _ h => h.elim) (Nat.le_refl _)))
    | ((with_reducible refine gate_dst (N := 20) rfl ?_); refine wpList_load_row rfl 25 _ rfl g rfl _ (startC m A xs.length c (l : Int)) (0, 0) _ (hG2.blk) Try.underlying25 rfl infoS ?_)
    | (go_at_call 10; refine ((By.out _ hC2)).mono ?_; rintro e w3 ⟨rfl, hk3⟩)
    | ((with_reducible refine gate_dst (N := 7) rfl ?_); refine al_ev rfl rfl (N := 7) rfl _ (zeroF _) ?_; intro f hg_f w4 hb_f hk_f; have Hg_f := Aside0.mk hg_f; clear hg_f)
    | ((with_reducible refine gate_dst (N := 8) rfl ?_); refine al_ev rfl rfl (N := 8) rfl _ (zeroR _) ?_; intro p hg_p w5 hb_p hk_p; have Hg_p := Aside0.mk hg_p; clear hg_p)
    | (((with_reducible refine gate_store (t := 31) (p := 7) rfl ?_); refine st_ev rfl rfl rfl f (S.cells) _ _ rfl rfl (((Bk.mk hb_f).kp hk_p (fun h => h)).blk) infoF rfl (VS.one _) ?_; intro w6 hs_w6 ks_w6); have hpf : p ≠ f := (by have := Hg_p.out; have := blk_lt hb_f; omega); have hP6 := (Bk.mk hb_p).kp ks_w6 hpf)
    | (((with_reducible refine gate_store (t := 34) (p := 8) rfl ?_); refine st_ev rfl rfl rfl p (R.cells) _ _ rfl rfl (hP6.blk) infoR rfl (VS.one _) ?_; intro w7 hs_w7 ks_w7); have hI : St FT w7 f S := (St.mk hs_w6).kp ks_w7 (fun e : f = p => hpf e.symm); have hP : St RT w7 p R := St.mk hs_w7; have hfw : w.heap.size ≤ f := (by have := Hg_f.out; have := (K2.trans hk3).size; omega); have hpw : w.heap.size ≤ p := (by have := Hg_p.out; have := ((K2.trans hk3).trans hk_f).size; omega); have hkf : k ≠ f := (by have := Hg_f.out; have := (hk3).size; have := blk_lt hT2.blk; omega); have hkp : k ≠ p := (by have := Hg_p.out; have := hk_f.size; have := hk3.size; have := blk_lt hT2.blk; omega); have hT := ((((hT2.kp hk3 (fun h => h)).kp hk_f (fun h => h)).kp hk_p (fun h => h)).kp ks_w6 hkf).kp ks_w7 hkp; have K7 : KpN w w7 := (((((K2.trans hk3).trans hk_f).trans hk_p).then ks_w6 fun i hi (e : i = f) => by omega).then ks_w7 fun i hi (e : i = p) => by omega); clear hb_g hk_g Hg_g hk2 hG2 hC2 hk3 hb_f hk_f Hg_f hb_p hk_p Hg_p hs_w6 ks_w6 hP6 hs_w7 ks_w7 hGk Kk hT2 K2 hb_k hk_k Hg_k)
    | ((with_reducible refine gate_dst (N := 28) rfl ?_); refine wpList_in (by rfl) (wp_load_row 27 _ rfl k rfl _ (trapC n tv tb) (0, 0) _ (hT.blk) Try.underlying27 rfl infoT ?_))
    | (go_at_call 11; refine (RB.out _).mono ?_; rintro e w8 ⟨rfl, k8⟩))
  have hI8 := hI.kp k8 (fun h => h)
  have hT8 := hT.kp k8 (fun h => h)
  have K8 := K7.trans k8
  have c0 := hI8.c0
  clear hI hP hT K7 k8
  go_quiet ((go_at_call 20; (first | with_reducible exact Calls.quiet_of (I3.out f _ (hI8.drewN _)) | with_reducible exact Calls.quiet_of (I1.out f _ (hI8.drewN _)))))
  go_wp2_with (first
    | ((with_reducible refine gate_dst (N := 36) rfl ?_); refine wpList_load_row rfl 27 _ rfl k rfl _ (trapC n tv tb) (0, 0) _ ((hT8.drewN _).blk) Try.underlying27 rfl infoT ?_)
    | (go_at_call 12; refine (D1.out f _ (hI8.drewN _)).mono ?_; rintro e w9 ⟨rfl, k9⟩; have hI9 := (hI8.drewN _).kp k9 (fun h => h); have hT9 := (hT8.drewN _).kp k9 (fun h => h); have K9 := (K8.drewN _).trans k9))
  refine (I22.out f _ hI9).mono ?_
  rintro e wa ⟨rfl, m9, rfl⟩
  go_wp2_with (((with_reducible refine gate_dst (N := 39) rfl ?_); refine wpList_load_row rfl 27 _ rfl k rfl _ (trapC n tv tb) (0, 0) _ ((hT9.drewN _).blk) Try.underlying27 rfl infoT ?_))
  refine (E1.out f _ (hI9.drewN _)).mono ?_
  rintro e wb ⟨rfl, hIb, kb⟩
  have Kb : KpN w wb := (K9.drewN _).then kb fun i hi (e : i = f) => by omega
  clear hI8 hT8 K8 c0 hI9 hT9 K9 k9 kb
  go_wp2_with (fail)
  refine (X.out f _ hIb).mono ?_
  rintro e wc ⟨rfl, hIc, kc⟩
  have Kc : KpN w wc := Kb.then kc fun i hi (e : i = f) => by omega
  have c0 := hIc.c0
  rw [B2.out] at c0
  clear hIb Kb kc
  go_wp2_with (go_at_call_of 20 (Value.int IntKind.i64 1); refine (J1.out f _ hIc).mono ?_; rintro e wd ⟨rfl, md, rfl⟩)
  refine (J3.out f _ (hIc.drewN _)).mono ?_
  rintro e we ⟨rfl, me, rfl⟩
  go_wp2
  go_ret
  exact ⟨rfl, (Kc.drewN _).below (fun _ _ h => h.elim) (Nat.le_refl _)⟩
set_option maxHeartbeats 8000000 in
set_option maxRecDepth 100000 in
theorem tback_m (m : Int) (A : Option Addr) (c : Nat) (l : Nat) (xs : List WR) (tc : Int) (tv : Nat) (tb : Bool) (pc : Nat) (w : World) (hC : Kd.C k68 w A xs.length xs) (hx : wrOk xs) (hl : U l) (hb : bgOk m xs.length) (hv : U tv) (hp : U pc) (hr : rightB tc = true) (hdq : ∀ S, bgF m xs l = S → delegW S tc.toNat tb = false) :
    Calls Try.prog 7 #[.agg (startC m A xs.length c (l : Int)), .agg (trapC tc tv tb), .int .u64 (pc : Int)] w fun e w' => e = .returned (.bool true) ∧ Below w.heap.size w w' := by
  have Hb := Aside0.mk hb
  have hRel := Rel.bg hx m l
  have hF : (bgF m xs l).ok := bgF_ok hx hl m
  have hR : (bgR m xs l).ok := bgR_ok hx hl m
  have hMo := (bg_mode (xs := xs) (l := l) hb)
  obtain ⟨S, hS⟩ : ∃ S, bgF m xs l = S := ⟨_, rfl⟩
  obtain ⟨R, hRR⟩ : ∃ R, bgR m xs l = R := ⟨_, rfl⟩
  rw [hS] at hF hRel hMo
  rw [hRR] at hR hRel hMo
  have by_ := fun w hC => begun_yes m A c l xs w Hb.out hC hx hl
  rw [hS, hRR] at by_
  have By := Aside0.mk by_
  have hd0 := hdq S hS
  clear hdq
  clear by_ hS hRR hb
  obtain ⟨n, rfl, hn⟩ : ∃ n : Nat, tc = (n : Int) ∧ n < 64 := by
    unfold rightB at hr
    rw [Bool.and_eq_true] at hr
    have h1 := of_decide_eq_true hr.1
    have h2 := of_decide_eq_true hr.2
    exact ⟨tc.toNat, by omega, by omega⟩
  rw [Int.toNat_natCast] at hd0
  have RB : Aside0 (∀ W, Calls Try.prog 11 #[.agg (trapC n tv tb)] W fun e w' => e = .returned (.bool true) ∧ KpN W w') := ⟨fun W => by have := right_c n tv tb W; rw [hr] at this; exact this⟩
  have hd : delegW S n tb = false := hd0
  obtain ⟨q, hq, hqm⟩ : ∃ q : Nat, q ≤ 3 ∧ S.m = (q : Int) := by
    rcases hMo.1 with h | h | h
    · exact ⟨0, by decide, h⟩
    · exact ⟨1, by decide, h⟩
    · exact ⟨3, by decide, h⟩
  have D1 : Aside0 (∀ (g : Nat) W, St FT W g S → Calls Try.prog 12 #[.pointer (some ⟨g, 0, none⟩), .agg (trapC n tv tb)] W fun e w' => e = .returned (.bool false) ∧ KpN W w') := ⟨fun g W h => by have := deleg_c g S n tv tb W h hF hn; rw [hd] at this; exact this⟩
  have I3 : Aside0 (∀ (g : Nat) W, St FT W g S → Calls Try.prog 20 #[.pointer (some ⟨g, 0, none⟩), .int .i64 3] W fun e w' => e = .returned (.bool (bitW (S.r 1) 3)) ∧ ∃ m, w' = W.drewN m) := ⟨fun g W h => is_c g S 3 W h hF⟩
  have I1 : Aside0 (∀ (g : Nat) W, St FT W g S → Calls Try.prog 20 #[.pointer (some ⟨g, 0, none⟩), .int .i64 1] W fun e w' => e = .returned (.bool (bitW (S.r 1) 1)) ∧ ∃ m, w' = W.drewN m) := ⟨fun g W h => is_c g S 1 W h hF⟩
  have ep : bits .andNot .u64 (pc : Int) 3 = ((minus pc 3 : Nat) : Int) := minus_l hp
  obtain ⟨b0, b1, b2, b3, b4⟩ := back_m S hF n tv tb pc q hn hv hp hq hqm
  have okE : (entM S n tv tb pc q).ok := keepW_ok (setW_ok (setW_ok (ent0_ok hF hn hv hp tb 11 10 12) (by decide) _) (by decide) _) q
  have E1 : Aside0 (∀ (g : Nat) W, St FT W g S → Calls Try.prog 15 #[.pointer (some ⟨g, 0, none⟩), .agg (trapC n tv tb), .int .u64 (pc : Int)] W fun e w' => e = .returned (.int .u64 ((targetW (S.r 7) n tb : Nat) : Int)) ∧ St FT w' g (entM S n tv tb pc q) ∧ KpG W w' g) := ⟨fun g W h => enter_m q hq g S n tv tb pc W h hF hn hv hp hqm hd⟩
  have X : Aside0 (∀ (g : Nat) W, St FT W g (entM S n tv tb pc q) → Calls Try.prog 23 #[.pointer (some ⟨g, 0, none⟩)] W fun e w' => e = .returned (.tuple #[.int .u64 ((minus pc 3 : Nat) : Int), .bool true]) ∧ St FT w' g (mretS (entM S n tv tb pc q)) ∧ KpG W w' g) := ⟨fun g W h => by
    have := mret_c g (entM S n tv tb pc q) W h okE; rw [if_pos b0, if_pos b0, b1, decide_eq_true b0] at this; exact this⟩
  have okT : (mretS (entM S n tv tb pc q)).ok := by
    unfold mretS
    split
    · exact keepW_ok (setW_ok (setW_ok (show ((entM S n tv tb pc q).mode _).ok from okE) (by decide) _) (by decide) _) 0
    · exact setW_ok (keepW_ok (setW_ok (setW_ok (show ((entM S n tv tb pc q).mode _).ok from okE) (by decide) _) (by decide) _) 0) (by decide) _
  generalize hT0 : mretS (entM S n tv tb pc q) = T at *
  generalize hE0 : entM S n tv tb pc q = E at *
  clear hT0 hE0 b0 b1 okE
  have J1 : Aside0 (∀ (g : Nat) W, St FT W g T → Calls Try.prog 20 #[.pointer (some ⟨g, 0, none⟩), .int .i64 1] W fun e w' => e = .returned (.bool (bitW (S.r 1) 1)) ∧ ∃ m, w' = W.drewN m) := ⟨fun g W h => by have := is_c g T 1 W h okT; rw [b3] at this; exact this⟩
  have J3 : Aside0 (∀ (g : Nat) W, St FT W g T → Calls Try.prog 20 #[.pointer (some ⟨g, 0, none⟩), .int .i64 3] W fun e w' => e = .returned (.bool (bitW (S.r 1) 3)) ∧ ∃ m, w' = W.drewN m) := ⟨fun g W h => by have := is_c g T 3 W h okT; rw [b4] at this; exact this⟩
  have B2 := Aside0.mk b2
  generalize bitW (S.r 1) 1 = v1 at I1 J1
  generalize bitW (S.r 1) 3 = v3 at I3 J3
  clear b2 b3 b4 okT
  clear hr hd hd0 hq hqm hMo hRel
  go_enter Try.func7, Try.ntmps7
  go_wp2_with (first
    | ((with_reducible refine gate_dst (N := 3) rfl ?_); refine bx_ev rfl rfl (N := 3) rfl (startC m A xs.length c (l : Int)) rfl ?_; intro g hg_g w1 hb_g hk_g; have Hg_g := Aside0.mk hg_g; clear hg_g)
    | (((with_reducible refine gate_dst (N := 4) rfl ?_); refine bx_ev rfl rfl (N := 4) rfl (trapC n tv tb) rfl ?_; intro k hg_k wk hb_k hk_k; have Hg_k := Aside0.mk hg_k; clear hg_k); have hGk := (Bk.mk hb_g).kp hk_k (fun h => h); have Kk : KpN w wk := hk_g.trans hk_k; have hkw : w.heap.size ≤ k := (by have := Hg_k.out; have := hk_g.size; omega))
    | (go_at_call 9; refine (awake9_c _).mono ?_; rintro e w2 ⟨rfl, hk2⟩; have hG2 := hGk.kp hk2 (fun h => h); have hT2 := (Bk.mk hb_k).kp hk2 (fun h => h); have K2 := Kk.trans hk2; have hC2 : Kd.C k68 w2 A xs.length xs := Kd.C_below hC (K2.below (fun _ _ h => h.elim) (Nat.le_refl _)))
    | ((with_reducible refine gate_dst (N := 20) rfl ?_); refine wpList_load_row rfl 25 _ rfl g rfl _ (startC m A xs.length c (l : Int)) (0, 0) _ (hG2.blk) Try.underlying25 rfl infoS ?_)
    | (go_at_call 10; refine ((By.out _ hC2)).mono ?_; rintro e w3 ⟨rfl, hk3⟩)
    | ((with_reducible refine gate_dst (N := 7) rfl ?_); refine al_ev rfl rfl (N := 7) rfl _ (zeroF _) ?_; intro f hg_f w4 hb_f hk_f; have Hg_f := Aside0.mk hg_f; clear hg_f)
    | ((with_reducible refine gate_dst (N := 8) rfl ?_); refine al_ev rfl rfl (N := 8) rfl _ (zeroR _) ?_; intro p hg_p w5 hb_p hk_p; have Hg_p := Aside0.mk hg_p; clear hg_p)
    | (((with_reducible refine gate_store (t := 31) (p := 7) rfl ?_); refine st_ev rfl rfl rfl f (S.cells) _ _ rfl rfl (((Bk.mk hb_f).kp hk_p (fun h => h)).blk) infoF rfl (VS.one _) ?_; intro w6 hs_w6 ks_w6); have hpf : p ≠ f := (by have := Hg_p.out; have := blk_lt hb_f; omega); have hP6 := (Bk.mk hb_p).kp ks_w6 hpf)
    | (((with_reducible refine gate_store (t := 34) (p := 8) rfl ?_); refine st_ev rfl rfl rfl p (R.cells) _ _ rfl rfl (hP6.blk) infoR rfl (VS.one _) ?_; intro w7 hs_w7 ks_w7); have hI : St FT w7 f S := (St.mk hs_w6).kp ks_w7 (fun e : f = p => hpf e.symm); have hP : St RT w7 p R := St.mk hs_w7; have hfw : w.heap.size ≤ f := (by have := Hg_f.out; have := (K2.trans hk3).size; omega); have hpw : w.heap.size ≤ p := (by have := Hg_p.out; have := ((K2.trans hk3).trans hk_f).size; omega); have hkf : k ≠ f := (by have := Hg_f.out; have := (hk3).size; have := blk_lt hT2.blk; omega); have hkp : k ≠ p := (by have := Hg_p.out; have := hk_f.size; have := hk3.size; have := blk_lt hT2.blk; omega); have hT := ((((hT2.kp hk3 (fun h => h)).kp hk_f (fun h => h)).kp hk_p (fun h => h)).kp ks_w6 hkf).kp ks_w7 hkp; have K7 : KpN w w7 := (((((K2.trans hk3).trans hk_f).trans hk_p).then ks_w6 fun i hi (e : i = f) => by omega).then ks_w7 fun i hi (e : i = p) => by omega); clear hb_g hk_g Hg_g hk2 hG2 hC2 hk3 hb_f hk_f Hg_f hb_p hk_p Hg_p hs_w6 ks_w6 hP6 hs_w7 ks_w7 hGk Kk hT2 K2 hb_k hk_k Hg_k)
    | ((with_reducible refine gate_dst (N := 28) rfl ?_); refine wpList_in (by rfl) (wp_load_row 27 _ rfl k rfl _ (trapC n tv tb) (0, 0) _ (hT.blk) Try.underlying27 rfl infoT ?_))
    | (go_at_call 11; refine (RB.out _).mono ?_; rintro e w8 ⟨rfl, k8⟩))
  have hI8 := hI.kp k8 (fun h => h)
  have hT8 := hT.kp k8 (fun h => h)
  have K8 := K7.trans k8
  have c0 := hI8.c0
  clear hI hP hT K7 k8
  go_quiet ((go_at_call 20; (first | with_reducible exact Calls.quiet_of (I3.out f _ (hI8.drewN _)) | with_reducible exact Calls.quiet_of (I1.out f _ (hI8.drewN _)))))
  go_wp2_with (first
    | ((with_reducible refine gate_dst (N := 36) rfl ?_); refine wpList_load_row rfl 27 _ rfl k rfl _ (trapC n tv tb) (0, 0) _ ((hT8.drewN _).blk) Try.underlying27 rfl infoT ?_)
    | (go_at_call 12; refine (D1.out f _ (hI8.drewN _)).mono ?_; rintro e w9 ⟨rfl, k9⟩; have hI9 := (hI8.drewN _).kp k9 (fun h => h); have hT9 := (hT8.drewN _).kp k9 (fun h => h); have K9 := (K8.drewN _).trans k9)
    | ((with_reducible refine gate_dst (N := 69) rfl ?_); refine wpList_load_row rfl 27 _ rfl k rfl _ (trapC n tv tb) (0, 0) _ (hT9.blk) Try.underlying27 rfl infoT ?_))
  refine (E1.out f _ hI9).mono ?_
  rintro e wb ⟨rfl, hIb, kb⟩
  have Kb : KpN w wb := K9.then kb fun i hi (e : i = f) => by omega
  clear hI8 hT8 K8 c0 hI9 hT9 K9 k9 kb
  go_wp2_with (fail)
  refine (X.out f _ hIb).mono ?_
  rintro e wc ⟨rfl, hIc, kc⟩
  have Kc : KpN w wc := Kb.then kc fun i hi (e : i = f) => by omega
  have c0 := hIc.c0
  rw [B2.out] at c0
  clear hIb Kb kc
  go_wp2_with (go_at_call_of 20 (Value.int IntKind.i64 3); refine (J3.out f _ hIc).mono ?_; rintro e wd ⟨rfl, md, rfl⟩)
  refine (J1.out f _ (hIc.drewN _)).mono ?_
  rintro e we ⟨rfl, me, rfl⟩
  go_wp2
  go_ret
  exact ⟨rfl, (Kc.drewN _).below (fun _ _ h => h.elim) (Nat.le_refl _)⟩
theorem tback_yes (m : Int) (A : Option Addr) (c : Nat) (l : Nat) (xs : List WR) (tc : Int) (tv : Nat) (tb : Bool) (pc : Nat) (w : World) (hC : Kd.C k68 w A xs.length xs) (hx : wrOk xs) (hl : U l) (hb : bgOk m xs.length) (hv : U tv) (hp : U pc) :
    Calls Try.prog 7 #[.agg (startC m A xs.length c (l : Int)), .agg (trapC tc tv tb), .int .u64 (pc : Int)] w fun e w' => e = .returned (.bool true) ∧ Below w.heap.size w w' := by
  cases hr : rightB tc
  · exact tback_bad m A c l xs tc tv tb pc w hC hx hl hb hr
  · cases hd : delegW (bgF m xs l) tc.toNat tb
    · exact tback_m m A c l xs tc tv tb pc w hC hx hl hb hv hp hr (fun S h => h ▸ hd)
    · cases ht : bitW ((bgF m xs l).r 1) 22
      · exact tback_s m A c l xs tc tv tb pc w hC hx hl hb hv hp hr (fun S h => h ▸ hd) (fun S h => h ▸ ht)
      · exact tback_t m A c l xs tc tv tb pc w hC hx hl hb hv hp hr (fun S h => h ▸ hd) (fun S h => h ▸ ht)
end Go.Proofs.Ytnknfepbekaobaa.H
