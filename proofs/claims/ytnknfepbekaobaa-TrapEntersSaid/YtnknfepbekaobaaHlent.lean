/- TrapEnters, walked by hand: any trap in any state. -/
import Derived.Test.YtnknfepbekaobaaTd
namespace Go.Proofs.Ytnknfepbekaobaa.H
open Go.RowKit Go.Proofs.YtnknfepbekaobaaW.PrintWords Go.Proofs.YtnknfepbekaobaaW.PrintLast Go.Proofs.Ytnknfepbekaobaa.PAl Go.Proofs.Ytnknfepbekaobaa.Pure Go.Proofs.Ytnknfepbekaobaa.Vw
set_option linter.unusedVariables false
set_option linter.unusedSimpArgs false
open Go.Sort
set_option maxHeartbeats 8000000 in
set_option maxRecDepth 100000 in
theorem tent_no (m : Int) (A : Option Addr) (c : Nat) (l : Nat) (xs : List WR) (tc : Int) (tv : Nat) (tb : Bool) (pc : Nat) (w : World) (hC : Kd.C k68 w A xs.length xs) (hb : ¬ bgOk m xs.length) :
    Calls Try.prog 3 #[.agg (startC m A xs.length c (l : Int)), .agg (trapC tc tv tb), .int .u64 (pc : Int)] w fun e w' => e = .returned (.bool true) ∧ Below w.heap.size w w' := by
  have Hb := Aside0.mk hb
  clear hb
  go_enter Try.func3, Try.ntmps3
  go_wp2_with (first
    | ((with_reducible refine gate_dst (N := 3) rfl ?_); refine bx_ev rfl rfl (N := 3) rfl (startC m A xs.length c (l : Int)) rfl ?_; intro g hg_g w1 hb_g hk_g; have Hg_g := Aside0.mk hg_g; clear hg_g)
    | (((with_reducible refine gate_dst (N := 4) rfl ?_); refine bx_ev rfl rfl (N := 4) rfl (trapC tc tv tb) rfl ?_; intro k hg_k wk hb_k hk_k; have Hg_k := Aside0.mk hg_k; clear hg_k); have hGk := (Bk.mk hb_g).kp hk_k (fun h => h); have Kk : KpN w wk := hk_g.trans hk_k; have hkw : w.heap.size ≤ k := (by have := Hg_k.out; have := hk_g.size; omega))
    | (go_at_call 9; refine (awake9_c _).mono ?_; rintro e w2 ⟨rfl, hk2⟩; have hG2 := hGk.kp hk2 (fun h => h); have hT2 := (Bk.mk hb_k).kp hk2 (fun h => h); have K2 := Kk.trans hk2; have hC2 : Kd.C k68 w2 A xs.length xs := Kd.C_below hC (K2.below (fun _ _ h => h.elim) (Nat.le_refl _)))
    | ((with_reducible refine gate_dst (N := 16) rfl ?_); refine wpList_load_row rfl 25 _ rfl g rfl _ (startC m A xs.length c (l : Int)) (0, 0) _ (hG2.blk) Try.underlying25 rfl infoS ?_)
    | (go_at_call 10; refine ((begun_no m A c l xs _ Hb.out)).mono ?_; rintro e w3 ⟨rfl, hk3⟩)
    | ((with_reducible refine gate_dst (N := 7) rfl ?_); refine al_ev rfl rfl (N := 7) rfl _ (zeroF _) ?_; intro f hg_f w4 hb_f hk_f; have Hg_f := Aside0.mk hg_f; clear hg_f)
    | ((with_reducible refine gate_dst (N := 8) rfl ?_); refine al_ev rfl rfl (N := 8) rfl _ (zeroR _) ?_; intro p hg_p w5 hb_p hk_p; have Hg_p := Aside0.mk hg_p; clear hg_p)
    | (((with_reducible refine gate_store (t := 31) (p := 7) rfl ?_); refine st_ev rfl rfl rfl f (vs0.cells) _ _ rfl rfl (((Bk.mk hb_f).kp hk_p (fun h => h)).blk) infoF rfl (VS.one _) ?_; intro w6 hs_w6 ks_w6); have hpf : p ≠ f := (by have := Hg_p.out; have := blk_lt hb_f; omega); have hP6 := (Bk.mk hb_p).kp ks_w6 hpf)
    | (((with_reducible refine gate_store (t := 34) (p := 8) rfl ?_); refine st_ev rfl rfl rfl p (vs0.cells) _ _ rfl rfl (hP6.blk) infoR rfl (VS.one _) ?_; intro w7 hs_w7 ks_w7); have hI : St FT w7 f vs0 := (St.mk hs_w6).kp ks_w7 (fun e : f = p => hpf e.symm); have hP : St RT w7 p vs0 := St.mk hs_w7; have hfw : w.heap.size ≤ f := (by have := Hg_f.out; have := (K2.trans hk3).size; omega); have hpw : w.heap.size ≤ p := (by have := Hg_p.out; have := ((K2.trans hk3).trans hk_f).size; omega); have hkf : k ≠ f := (by have := Hg_f.out; have := (hk3).size; have := blk_lt hT2.blk; omega); have hkp : k ≠ p := (by have := Hg_p.out; have := hk_f.size; have := hk3.size; have := blk_lt hT2.blk; omega); have hT := ((((hT2.kp hk3 (fun h => h)).kp hk_f (fun h => h)).kp hk_p (fun h => h)).kp ks_w6 hkf).kp ks_w7 hkp; have K7 : KpN w w7 := (((((K2.trans hk3).trans hk_f).trans hk_p).then ks_w6 fun i hi (e : i = f) => by omega).then ks_w7 fun i hi (e : i = p) => by omega); clear hb_g hk_g Hg_g hk2 hG2 hC2 hk3 hb_f hk_f Hg_f hb_p hk_p Hg_p hs_w6 ks_w6 hP6 hs_w7 ks_w7 hGk Kk hT2 K2 hb_k hk_k Hg_k))
  go_ret
  exact ⟨rfl, K7.below (fun _ _ h => h.elim) (Nat.le_refl _)⟩
set_option maxHeartbeats 8000000 in
set_option maxRecDepth 100000 in
theorem tent_bad (m : Int) (A : Option Addr) (c : Nat) (l : Nat) (xs : List WR) (tc : Int) (tv : Nat) (tb : Bool) (pc : Nat) (w : World) (hC : Kd.C k68 w A xs.length xs) (hx : wrOk xs) (hl : U l) (hb : bgOk m xs.length) (hr : rightB tc = false) :
    Calls Try.prog 3 #[.agg (startC m A xs.length c (l : Int)), .agg (trapC tc tv tb), .int .u64 (pc : Int)] w fun e w' => e = .returned (.bool true) ∧ Below w.heap.size w w' := by
  have Hb := Aside0.mk hb
  have hRel := Rel.bg hx m l
  have hF : (bgF m xs l).ok := bgF_ok hx hl m
  have hR : (bgR m xs l).ok := bgR_ok hx hl m
  have hMo := (bg_mode (xs := xs) (l := l) hb)
  obtain ⟨S, hS⟩ : ∃ S, bgF m xs l = S := ⟨_, rfl⟩
  obtain ⟨R, hRR⟩ : ∃ R, bgR m xs l = R := ⟨_, rfl⟩
  rw [hS] at hF hRel hMo
  rw [hRR] at hR hRel hMo
  have by_ := fun w hC => begun_yes m A c l xs w Hb.out hC hx hl
  rw [hS, hRR] at by_
  have By := Aside0.mk by_
  clear by_ hS hRR hb
  have RB : Aside0 (∀ W, Calls Try.prog 11 #[.agg (trapC tc tv tb)] W fun e w' => e = .returned (.bool false) ∧ KpN W w') := ⟨fun W => by have := right_c tc tv tb W; rw [hr] at this; exact this⟩
  clear hr hMo hRel
  go_enter Try.func3, Try.ntmps3
  go_wp2_with (first
    | ((with_reducible refine gate_dst (N := 3) rfl ?_); refine bx_ev rfl rfl (N := 3) rfl (startC m A xs.length c (l : Int)) rfl ?_; intro g hg_g w1 hb_g hk_g; have Hg_g := Aside0.mk hg_g; clear hg_g)
    | (((with_reducible refine gate_dst (N := 4) rfl ?_); refine bx_ev rfl rfl (N := 4) rfl (trapC tc tv tb) rfl ?_; intro k hg_k wk hb_k hk_k; have Hg_k := Aside0.mk hg_k; clear hg_k); have hGk := (Bk.mk hb_g).kp hk_k (fun h => h); have Kk : KpN w wk := hk_g.trans hk_k; have hkw : w.heap.size ≤ k := (by have := Hg_k.out; have := hk_g.size; omega))
    | (go_at_call 9; refine (awake9_c _).mono ?_; rintro e w2 ⟨rfl, hk2⟩; have hG2 := hGk.kp hk2 (fun h => h); have hT2 := (Bk.mk hb_k).kp hk2 (fun h => h); have K2 := Kk.trans hk2; have hC2 : Kd.C k68 w2 A xs.length xs := Kd.C_below hC (K2.below (fun _ _ h => h.elim) (Nat.le_refl _)))
    | ((with_reducible refine gate_dst (N := 16) rfl ?_); refine wpList_load_row rfl 25 _ rfl g rfl _ (startC m A xs.length c (l : Int)) (0, 0) _ (hG2.blk) Try.underlying25 rfl infoS ?_)
    | (go_at_call 10; refine ((By.out _ hC2)).mono ?_; rintro e w3 ⟨rfl, hk3⟩)
    | ((with_reducible refine gate_dst (N := 7) rfl ?_); refine al_ev rfl rfl (N := 7) rfl _ (zeroF _) ?_; intro f hg_f w4 hb_f hk_f; have Hg_f := Aside0.mk hg_f; clear hg_f)
    | ((with_reducible refine gate_dst (N := 8) rfl ?_); refine al_ev rfl rfl (N := 8) rfl _ (zeroR _) ?_; intro p hg_p w5 hb_p hk_p; have Hg_p := Aside0.mk hg_p; clear hg_p)
    | (((with_reducible refine gate_store (t := 31) (p := 7) rfl ?_); refine st_ev rfl rfl rfl f (S.cells) _ _ rfl rfl (((Bk.mk hb_f).kp hk_p (fun h => h)).blk) infoF rfl (VS.one _) ?_; intro w6 hs_w6 ks_w6); have hpf : p ≠ f := (by have := Hg_p.out; have := blk_lt hb_f; omega); have hP6 := (Bk.mk hb_p).kp ks_w6 hpf)
    | (((with_reducible refine gate_store (t := 34) (p := 8) rfl ?_); refine st_ev rfl rfl rfl p (R.cells) _ _ rfl rfl (hP6.blk) infoR rfl (VS.one _) ?_; intro w7 hs_w7 ks_w7); have hI : St FT w7 f S := (St.mk hs_w6).kp ks_w7 (fun e : f = p => hpf e.symm); have hP : St RT w7 p R := St.mk hs_w7; have hfw : w.heap.size ≤ f := (by have := Hg_f.out; have := (K2.trans hk3).size; omega); have hpw : w.heap.size ≤ p := (by have := Hg_p.out; have := ((K2.trans hk3).trans hk_f).size; omega); have hkf : k ≠ f := (by have := Hg_f.out; have := (hk3).size; have := blk_lt hT2.blk; omega); have hkp : k ≠ p := (by have := Hg_p.out; have := hk_f.size; have := hk3.size; have := blk_lt hT2.blk; omega); have hT := ((((hT2.kp hk3 (fun h => h)).kp hk_f (fun h => h)).kp hk_p (fun h => h)).kp ks_w6 hkf).kp ks_w7 hkp; have K7 : KpN w w7 := (((((K2.trans hk3).trans hk_f).trans hk_p).then ks_w6 fun i hi (e : i = f) => by omega).then ks_w7 fun i hi (e : i = p) => by omega); clear hb_g hk_g Hg_g hk2 hG2 hC2 hk3 hb_f hk_f Hg_f hb_p hk_p Hg_p hs_w6 ks_w6 hP6 hs_w7 ks_w7 hGk Kk hT2 K2 hb_k hk_k Hg_k)
    | ((with_reducible refine gate_dst (N := 24) rfl ?_); refine wpList_in (by rfl) (wp_load_row 27 _ rfl k rfl _ (trapC tc tv tb) (0, 0) _ (hT.blk) Try.underlying27 rfl infoT ?_))
    | (go_at_call 11; refine (RB.out _).mono ?_; rintro e w8 ⟨rfl, k8⟩))
  go_ret
  exact ⟨rfl, (K7.trans k8).below (fun _ _ h => h.elim) (Nat.le_refl _)⟩
set_option maxHeartbeats 8000000 in
set_option maxRecDepth 100000 in
theorem tent_s (m : Int) (A : Option Addr) (c : Nat) (l : Nat) (xs : List WR) (tc : Int) (tv : Nat) (tb : Bool) (pc : Nat) (w : World) (hC : Kd.C k68 w A xs.length xs) (hx : wrOk xs) (hl : U l) (hb : bgOk m xs.length) (hv : U tv) (hp : U pc) (hr : rightB tc = true) (hdq : ∀ S, bgF m xs l = S → delegW S tc.toNat tb = true) :
    Calls Try.prog 3 #[.agg (startC m A xs.length c (l : Int)), .agg (trapC tc tv tb), .int .u64 (pc : Int)] w fun e w' => e = .returned (.bool true) ∧ Below w.heap.size w w' := by
  have Hb := Aside0.mk hb
  have hRel := Rel.bg hx m l
  have hF : (bgF m xs l).ok := bgF_ok hx hl m
  have hR : (bgR m xs l).ok := bgR_ok hx hl m
  have hMo := (bg_mode (xs := xs) (l := l) hb)
  obtain ⟨S, hS⟩ : ∃ S, bgF m xs l = S := ⟨_, rfl⟩
  obtain ⟨R, hRR⟩ : ∃ R, bgR m xs l = R := ⟨_, rfl⟩
  rw [hS] at hF hRel hMo
  rw [hRR] at hR hRel hMo
  have by_ := fun w hC => begun_yes m A c l xs w Hb.out hC hx hl
  rw [hS, hRR] at by_
  have By := Aside0.mk by_
  have hd0 := hdq S hS
  clear hdq
  clear by_ hS hRR hb
  obtain ⟨n, rfl, hn⟩ : ∃ n : Nat, tc = (n : Int) ∧ n < 64 := by
    unfold rightB at hr
    rw [Bool.and_eq_true] at hr
    have h1 := of_decide_eq_true hr.1
    have h2 := of_decide_eq_true hr.2
    exact ⟨tc.toNat, by omega, by omega⟩
  rw [Int.toNat_natCast] at hd0
  have RB : Aside0 (∀ W, Calls Try.prog 11 #[.agg (trapC n tv tb)] W fun e w' => e = .returned (.bool true) ∧ KpN W w') := ⟨fun W => by have := right_c n tv tb W; rw [hr] at this; exact this⟩
  have hd : delegW S n tb = true := hd0
  have hd' : rdelegW R n tb = true := by rw [← hRel.deleg]; exact hd
  obtain ⟨q, hq, hqm⟩ : ∃ q : Nat, q ≤ 3 ∧ S.m = (q : Int) := by
    rcases hMo.1 with h | h | h
    · exact ⟨0, by decide, h⟩
    · exact ⟨1, by decide, h⟩
    · exact ⟨3, by decide, h⟩
  have hqm' : R.m = (q : Int) := hRel.m ▸ hqm
  have hv7 : S.r 13 = R.r 13 := hRel.r 12 (by decide)
  obtain ⟨at_, hat⟩ : ∃ at_, targetW (S.r 13) n tb = at_ := ⟨_, rfl⟩
  have D1 : Aside0 (∀ (g : Nat) W, St FT W g S → Calls Try.prog 12 #[.pointer (some ⟨g, 0, none⟩), .agg (trapC n tv tb)] W fun e w' => e = .returned (.bool true) ∧ KpN W w') := ⟨fun g W h => by have := deleg_c g S n tv tb W h hF hn; rw [hd] at this; exact this⟩
  have D2 : Aside0 (∀ W, Calls Try.prog 13 #[.agg R.cells, .agg (trapC n tv tb)] W fun e w' => e = .returned (.bool true) ∧ KpN W w') := ⟨fun W => by have := deleg_r R n tv tb W hR; rw [hd'] at this; exact this⟩
  have SM : Aside0 (∀ W, Calls Try.prog 14 #[.agg S.cells, .agg R.cells] W fun e w' => e = .returned (.bool true) ∧ KpN W w') := ⟨fun W => by
    have := same_c S R W; rw [hRel.same] at this; exact this⟩
  have E1 : Aside0 (∀ (g : Nat) W, St FT W g S → Calls Try.prog 15 #[.pointer (some ⟨g, 0, none⟩), .agg (trapC n tv tb), .int .u64 (pc : Int)] W fun e w' => e = .returned (.int .u64 (at_ : Int)) ∧ St FT w' g (entS S n tv tb pc) ∧ KpG W w' g) := ⟨fun g W h => by
    have := enter_s g S n tv tb pc W h hF hn hv hp hd; rw [hat] at this; exact this⟩
  have E2 : Aside0 (∀ W, Calls Try.prog 16 #[.agg R.cells, .agg (trapC n tv tb), .int .u64 (pc : Int)] W fun e w' => e = .returned (.tuple #[.agg (rentS R n tv tb pc).cells, .int .u64 (at_ : Int)]) ∧ KpN W w') := ⟨fun W => by
    have := renter_s R n tv tb pc W hR hn hv hp hd'; rw [← hv7, hat] at this; exact this⟩
  have SM2 : Aside0 (∀ W, Calls Try.prog 14 #[.agg (entS S n tv tb pc).cells, .agg (rentS R n tv tb pc).cells] W fun e w' => e = .returned (.bool true) ∧ KpN W w') := ⟨fun W => by
    have := same_c (entS S n tv tb pc) (rentS R n tv tb pc) W; rw [(hRel.entS hF hn hv hp tb).same] at this; exact this⟩
  generalize entS S n tv tb pc = S2 at E1 SM2
  generalize rentS R n tv tb pc = R2 at E2 SM2
  clear hr hd hd' hd0 hq hqm hqm' hv7 hat hMo hRel
  go_enter Try.func3, Try.ntmps3
  go_wp2_with (first
    | ((with_reducible refine gate_dst (N := 3) rfl ?_); refine bx_ev rfl rfl (N := 3) rfl (startC m A xs.length c (l : Int)) rfl ?_; intro g hg_g w1 hb_g hk_g; have Hg_g := Aside0.mk hg_g; clear hg_g)
    | (((with_reducible refine gate_dst (N := 4) rfl ?_); refine bx_ev rfl rfl (N := 4) rfl (trapC n tv tb) rfl ?_; intro k hg_k wk hb_k hk_k; have Hg_k := Aside0.mk hg_k; clear hg_k); have hGk := (Bk.mk hb_g).kp hk_k (fun h => h); have Kk : KpN w wk := hk_g.trans hk_k; have hkw : w.heap.size ≤ k := (by have := Hg_k.out; have := hk_g.size; omega))
    | (go_at_call 9; refine (awake9_c _).mono ?_; rintro e w2 ⟨rfl, hk2⟩; have hG2 := hGk.kp hk2 (fun h => h); have hT2 := (Bk.mk hb_k).kp hk2 (fun h => h); have K2 := Kk.trans hk2; have hC2 : Kd.C k68 w2 A xs.length xs := Kd.C_below hC (K2.below (fun _ _ h => h.elim) (Nat.le_refl _)))
    | ((with_reducible refine gate_dst (N := 16) rfl ?_); refine wpList_load_row rfl 25 _ rfl g rfl _ (startC m A xs.length c (l : Int)) (0, 0) _ (hG2.blk) Try.underlying25 rfl infoS ?_)
    | (go_at_call 10; refine ((By.out _ hC2)).mono ?_; rintro e w3 ⟨rfl, hk3⟩)
    | ((with_reducible refine gate_dst (N := 7) rfl ?_); refine al_ev rfl rfl (N := 7) rfl _ (zeroF _) ?_; intro f hg_f w4 hb_f hk_f; have Hg_f := Aside0.mk hg_f; clear hg_f)
    | ((with_reducible refine gate_dst (N := 8) rfl ?_); refine al_ev rfl rfl (N := 8) rfl _ (zeroR _) ?_; intro p hg_p w5 hb_p hk_p; have Hg_p := Aside0.mk hg_p; clear hg_p)
    | (((with_reducible refine gate_store (t := 31) (p := 7) rfl ?_); refine st_ev rfl rfl rfl f (S.cells) _ _ rfl rfl (((Bk.mk hb_f).kp hk_p (fun h => h)).blk) infoF rfl (VS.one _) ?_; intro w6 hs_w6 ks_w6); have hpf : p ≠ f := (by have := Hg_p.out; have := blk_lt hb_f; omega); have hP6 := (Bk.mk hb_p).kp ks_w6 hpf)
    | (((with_reducible refine gate_store (t := 34) (p := 8) rfl ?_); refine st_ev rfl rfl rfl p (R.cells) _ _ rfl rfl (hP6.blk) infoR rfl (VS.one _) ?_; intro w7 hs_w7 ks_w7); have hI : St FT w7 f S := (St.mk hs_w6).kp ks_w7 (fun e : f = p => hpf e.symm); have hP : St RT w7 p R := St.mk hs_w7; have hfw : w.heap.size ≤ f := (by have := Hg_f.out; have := (K2.trans hk3).size; omega); have hpw : w.heap.size ≤ p := (by have := Hg_p.out; have := ((K2.trans hk3).trans hk_f).size; omega); have hkf : k ≠ f := (by have := Hg_f.out; have := (hk3).size; have := blk_lt hT2.blk; omega); have hkp : k ≠ p := (by have := Hg_p.out; have := hk_f.size; have := hk3.size; have := blk_lt hT2.blk; omega); have hT := ((((hT2.kp hk3 (fun h => h)).kp hk_f (fun h => h)).kp hk_p (fun h => h)).kp ks_w6 hkf).kp ks_w7 hkp; have K7 : KpN w w7 := (((((K2.trans hk3).trans hk_f).trans hk_p).then ks_w6 fun i hi (e : i = f) => by omega).then ks_w7 fun i hi (e : i = p) => by omega); clear hb_g hk_g Hg_g hk2 hG2 hC2 hk3 hb_f hk_f Hg_f hb_p hk_p Hg_p hs_w6 ks_w6 hP6 hs_w7 ks_w7 hGk Kk hT2 K2 hb_k hk_k Hg_k)
    | ((with_reducible refine gate_dst (N := 24) rfl ?_); refine wpList_in (by rfl) (wp_load_row 27 _ rfl k rfl _ (trapC n tv tb) (0, 0) _ (hT.blk) Try.underlying27 rfl infoT ?_))
    | (go_at_call 11; refine (RB.out _).mono ?_; rintro e w8 ⟨rfl, k8⟩))
  have hI8 := hI.kp k8 (fun h => h)
  have hP8 := hP.kp k8 (fun h => h)
  have hT8 := hT.kp k8 (fun h => h)
  have K8 := K7.trans k8
  clear hI hP hT K7 k8
  have cQ1 := rg_calls (w := w8) fun W hW => D1.out f W (hI8.kp hW (fun h => h))
  have cQ2 := rg_calls (w := w8) fun W _ => D2.out W
  have cQ3 := rg_calls (w := w8) fun W _ => SM.out W
  have kF : ∀ W, Rg w8 W → W.heap[f]? = some (.cells S.cells 31 (0, 0)) := fun W h => (hI8.kp h.kp (fun h => h)).blk
  have kR : ∀ W, Rg w8 W → W.heap[p]? = some (.cells R.cells 34 (0, 0)) := fun W h => (hP8.kp h.kp (fun h => h)).blk
  have kT : ∀ W, Rg w8 W → W.heap[k]? = some (.cells (trapC n tv tb) 27 (0, 0)) := fun W h => (hT8.kp h.kp (fun h => h)).blk
  have KF := Aside0.mk kF
  have KR := Aside0.mk kR
  have KT := Aside0.mk kT
  clear kF kR kT
  refine wp_region_quiet_below (by kernel_rfl) (by kernel_rfl) ?_
  refine wpQuiet_ld (C := Rg w8) (by rfl) rfl k rfl 27 (trapC n tv tb) _ KT.out rfl rfl rfl ?_
  quiet_step (with_reducible exact cQ1 _ _)
  refine wpQuiet_ld (C := Rg w8) (by rfl) rfl p rfl 34 R.cells _ KR.out rfl rfl rfl ?_
  refine wpQuiet_ld (C := Rg w8) (by rfl) rfl k rfl 27 (trapC n tv tb) _ KT.out rfl rfl rfl ?_
  quiet_step (with_reducible exact cQ2 _ _)
  quiet_step (fail)
  quiet_step (fail)
  refine wpQuiet_ld (C := Rg w8) (by rfl) rfl f rfl 31 S.cells _ KF.out rfl rfl rfl ?_
  refine wpQuiet_ld (C := Rg w8) (by rfl) rfl p rfl 34 R.cells _ KR.out rfl rfl rfl ?_
  repeat (quiet_step (with_reducible exact cQ3 _ _))
  refine wpQuiet_nil ?_
  intro w9 hw9
  replace hw9 : Rg w8 w9 := hw9
  have hI9 := hI8.kp hw9.kp (fun h => h)
  have hP9 := hP8.kp hw9.kp (fun h => h)
  have hT9 := hT8.kp hw9.kp (fun h => h)
  have K9 := K8.trans hw9.kp
  clear hI8 hP8 hT8 K8 hw9 cQ1 cQ2 cQ3 KF KR KT
  go_wp2_with (first
    | ((with_reducible refine gate_dst (N := 40) rfl ?_); refine wpList_load_row rfl 27 _ rfl k rfl _ (trapC n tv tb) (0, 0) _ (hT9.blk) Try.underlying27 rfl infoT ?_)
    | (go_at_call 15; refine (E1.out f _ hI9).mono ?_; rintro e wa ⟨rfl, hIa, ka⟩; have hPa := hP9.kp ka hpf; have hTa := hT9.kp ka hkf; have Ka : KpN w wa := K9.then ka fun i hi (e : i = f) => by omega)
    | ((with_reducible refine gate_dst (N := 44) rfl ?_); refine wpList_load_row rfl 34 _ rfl p rfl _ (R.cells) (0, 0) _ (hPa.blk) Try.underlying34 rfl infoR ?_)
    | ((with_reducible refine gate_dst (N := 45) rfl ?_); refine wpList_load_row rfl 27 _ rfl k rfl _ (trapC n tv tb) (0, 0) _ (hTa.blk) Try.underlying27 rfl infoT ?_)
    | (go_at_call 16; refine (E2.out _).mono ?_; rintro e wb ⟨rfl, kb⟩; have hIb := hIa.kp kb (fun h => h); have Kb := Ka.trans kb)
    | ((with_reducible refine gate_dst (N := 11) rfl ?_); refine al_ev rfl rfl (N := 11) rfl _ (zeroR _) ?_; intro o hg_o wc hb_o hk_o; have Hg_o := Aside0.mk hg_o; clear hg_o)
    | (((with_reducible refine gate_store (t := 34) (p := 11) rfl ?_); refine st_ev rfl rfl rfl o (R2.cells) _ _ rfl rfl (hb_o) infoR rfl (VS.one _) ?_; intro wd hs_wd ks_wd); have hId := (hIb.kp hk_o (fun h => h)).kp ks_wd (fun e : f = o => by have := Hg_o.out; have := hIb.lt; omega); have how : w.heap.size ≤ o := (by have := Hg_o.out; have := Kb.size; omega); have Kd : KpN w wd := (Kb.trans hk_o).then ks_wd fun i hi (e : i = o) => by omega)
    | ((with_reducible refine gate_dst (N := 54) rfl ?_); refine wpList_in (by rfl) (wp_load_row 31 _ rfl f rfl _ (S2.cells) (0, 0) _ (hId.blk) Try.underlying31 rfl infoF ?_))
    | ((with_reducible refine gate_dst (N := 55) rfl ?_); refine wpList_in (by rfl) (wp_load_row 34 _ rfl o rfl _ (R2.cells) (0, 0) _ (hs_wd) Try.underlying34 rfl infoR ?_))
    | (go_at_call 14; refine (SM2.out _).mono ?_; rintro e we ⟨rfl, ke⟩))
  go_ret
  exact ⟨rfl, (Kd.trans ke).below (fun _ _ h => h.elim) (Nat.le_refl _)⟩
set_option maxHeartbeats 8000000 in
set_option maxRecDepth 100000 in
theorem tent_m (m : Int) (A : Option Addr) (c : Nat) (l : Nat) (xs : List WR) (tc : Int) (tv : Nat) (tb : Bool) (pc : Nat) (w : World) (hC : Kd.C k68 w A xs.length xs) (hx : wrOk xs) (hl : U l) (hb : bgOk m xs.length) (hv : U tv) (hp : U pc) (hr : rightB tc = true) (hdq : ∀ S, bgF m xs l = S → delegW S tc.toNat tb = false) :
    Calls Try.prog 3 #[.agg (startC m A xs.length c (l : Int)), .agg (trapC tc tv tb), .int .u64 (pc : Int)] w fun e w' => e = .returned (.bool true) ∧ Below w.heap.size w w' := by
  have Hb := Aside0.mk hb
  have hRel := Rel.bg hx m l
  have hF : (bgF m xs l).ok := bgF_ok hx hl m
  have hR : (bgR m xs l).ok := bgR_ok hx hl m
  have hMo := (bg_mode (xs := xs) (l := l) hb)
  obtain ⟨S, hS⟩ : ∃ S, bgF m xs l = S := ⟨_, rfl⟩
  obtain ⟨R, hRR⟩ : ∃ R, bgR m xs l = R := ⟨_, rfl⟩
  rw [hS] at hF hRel hMo
  rw [hRR] at hR hRel hMo
  have by_ := fun w hC => begun_yes m A c l xs w Hb.out hC hx hl
  rw [hS, hRR] at by_
  have By := Aside0.mk by_
  have hd0 := hdq S hS
  clear hdq
  clear by_ hS hRR hb
  obtain ⟨n, rfl, hn⟩ : ∃ n : Nat, tc = (n : Int) ∧ n < 64 := by
    unfold rightB at hr
    rw [Bool.and_eq_true] at hr
    have h1 := of_decide_eq_true hr.1
    have h2 := of_decide_eq_true hr.2
    exact ⟨tc.toNat, by omega, by omega⟩
  rw [Int.toNat_natCast] at hd0
  have RB : Aside0 (∀ W, Calls Try.prog 11 #[.agg (trapC n tv tb)] W fun e w' => e = .returned (.bool true) ∧ KpN W w') := ⟨fun W => by have := right_c n tv tb W; rw [hr] at this; exact this⟩
  have hd : delegW S n tb = false := hd0
  have hd' : rdelegW R n tb = false := by rw [← hRel.deleg]; exact hd
  obtain ⟨q, hq, hqm⟩ : ∃ q : Nat, q ≤ 3 ∧ S.m = (q : Int) := by
    rcases hMo.1 with h | h | h
    · exact ⟨0, by decide, h⟩
    · exact ⟨1, by decide, h⟩
    · exact ⟨3, by decide, h⟩
  have hqm' : R.m = (q : Int) := hRel.m ▸ hqm
  have hv7 : S.r 7 = R.r 7 := hRel.r 6 (by decide)
  obtain ⟨at_, hat⟩ : ∃ at_, targetW (S.r 7) n tb = at_ := ⟨_, rfl⟩
  have D1 : Aside0 (∀ (g : Nat) W, St FT W g S → Calls Try.prog 12 #[.pointer (some ⟨g, 0, none⟩), .agg (trapC n tv tb)] W fun e w' => e = .returned (.bool false) ∧ KpN W w') := ⟨fun g W h => by have := deleg_c g S n tv tb W h hF hn; rw [hd] at this; exact this⟩
  have D2 : Aside0 (∀ W, Calls Try.prog 13 #[.agg R.cells, .agg (trapC n tv tb)] W fun e w' => e = .returned (.bool false) ∧ KpN W w') := ⟨fun W => by have := deleg_r R n tv tb W hR; rw [hd'] at this; exact this⟩
  have SM : Aside0 (∀ W, Calls Try.prog 14 #[.agg S.cells, .agg R.cells] W fun e w' => e = .returned (.bool true) ∧ KpN W w') := ⟨fun W => by
    have := same_c S R W; rw [hRel.same] at this; exact this⟩
  have E1 : Aside0 (∀ (g : Nat) W, St FT W g S → Calls Try.prog 15 #[.pointer (some ⟨g, 0, none⟩), .agg (trapC n tv tb), .int .u64 (pc : Int)] W fun e w' => e = .returned (.int .u64 (at_ : Int)) ∧ St FT w' g (entM S n tv tb pc q) ∧ KpG W w' g) := ⟨fun g W h => by
    have := enter_m q hq g S n tv tb pc W h hF hn hv hp hqm hd; rw [hat] at this; exact this⟩
  have E2 : Aside0 (∀ W, Calls Try.prog 16 #[.agg R.cells, .agg (trapC n tv tb), .int .u64 (pc : Int)] W fun e w' => e = .returned (.tuple #[.agg (rentM R n tv tb pc q).cells, .int .u64 (at_ : Int)]) ∧ KpN W w') := ⟨fun W => by
    have := renter_m q hq R n tv tb pc W hR hn hv hp hqm' hd'; rw [← hv7, hat] at this; exact this⟩
  have SM2 : Aside0 (∀ W, Calls Try.prog 14 #[.agg (entM S n tv tb pc q).cells, .agg (rentM R n tv tb pc q).cells] W fun e w' => e = .returned (.bool true) ∧ KpN W w') := ⟨fun W => by
    have := same_c (entM S n tv tb pc q) (rentM R n tv tb pc q) W; rw [(hRel.entM hF hn hv hp tb q).same] at this; exact this⟩
  generalize entM S n tv tb pc q = S2 at E1 SM2
  generalize rentM R n tv tb pc q = R2 at E2 SM2
  clear hr hd hd' hd0 hq hqm hqm' hv7 hat hMo hRel
  go_enter Try.func3, Try.ntmps3
  go_wp2_with (first
    | ((with_reducible refine gate_dst (N := 3) rfl ?_); refine bx_ev rfl rfl (N := 3) rfl (startC m A xs.length c (l : Int)) rfl ?_; intro g hg_g w1 hb_g hk_g; have Hg_g := Aside0.mk hg_g; clear hg_g)
    | (((with_reducible refine gate_dst (N := 4) rfl ?_); refine bx_ev rfl rfl (N := 4) rfl (trapC n tv tb) rfl ?_; intro k hg_k wk hb_k hk_k; have Hg_k := Aside0.mk hg_k; clear hg_k); have hGk := (Bk.mk hb_g).kp hk_k (fun h => h); have Kk : KpN w wk := hk_g.trans hk_k; have hkw : w.heap.size ≤ k := (by have := Hg_k.out; have := hk_g.size; omega))
    | (go_at_call 9; refine (awake9_c _).mono ?_; rintro e w2 ⟨rfl, hk2⟩; have hG2 := hGk.kp hk2 (fun h => h); have hT2 := (Bk.mk hb_k).kp hk2 (fun h => h); have K2 := Kk.trans hk2; have hC2 : Kd.C k68 w2 A xs.length xs := Kd.C_below hC (K2.below (fun _ _ h => h.elim) (Nat.le_refl _)))
    | ((with_reducible refine gate_dst (N := 16) rfl ?_); refine wpList_load_row rfl 25 _ rfl g rfl _ (startC m A xs.length c (l : Int)) (0, 0) _ (hG2.blk) Try.underlying25 rfl infoS ?_)
    | (go_at_call 10; refine ((By.out _ hC2)).mono ?_; rintro e w3 ⟨rfl, hk3⟩)
    | ((with_reducible refine gate_dst (N := 7) rfl ?_); refine al_ev rfl rfl (N := 7) rfl _ (zeroF _) ?_; intro f hg_f w4 hb_f hk_f; have Hg_f := Aside0.mk hg_f; clear hg_f)
    | ((with_reducible refine gate_dst (N := 8) rfl ?_); refine al_ev rfl rfl (N := 8) rfl _ (zeroR _) ?_; intro p hg_p w5 hb_p hk_p; have Hg_p := Aside0.mk hg_p; clear hg_p)
    | (((with_reducible refine gate_store (t := 31) (p := 7) rfl ?_); refine st_ev rfl rfl rfl f (S.cells) _ _ rfl rfl (((Bk.mk hb_f).kp hk_p (fun h => h)).blk) infoF rfl (VS.one _) ?_; intro w6 hs_w6 ks_w6); have hpf : p ≠ f := (by have := Hg_p.out; have := blk_lt hb_f; omega); have hP6 := (Bk.mk hb_p).kp ks_w6 hpf)
    | (((with_reducible refine gate_store (t := 34) (p := 8) rfl ?_); refine st_ev rfl rfl rfl p (R.cells) _ _ rfl rfl (hP6.blk) infoR rfl (VS.one _) ?_; intro w7 hs_w7 ks_w7); have hI : St FT w7 f S := (St.mk hs_w6).kp ks_w7 (fun e : f = p => hpf e.symm); have hP : St RT w7 p R := St.mk hs_w7; have hfw : w.heap.size ≤ f := (by have := Hg_f.out; have := (K2.trans hk3).size; omega); have hpw : w.heap.size ≤ p := (by have := Hg_p.out; have := ((K2.trans hk3).trans hk_f).size; omega); have hkf : k ≠ f := (by have := Hg_f.out; have := (hk3).size; have := blk_lt hT2.blk; omega); have hkp : k ≠ p := (by have := Hg_p.out; have := hk_f.size; have := hk3.size; have := blk_lt hT2.blk; omega); have hT := ((((hT2.kp hk3 (fun h => h)).kp hk_f (fun h => h)).kp hk_p (fun h => h)).kp ks_w6 hkf).kp ks_w7 hkp; have K7 : KpN w w7 := (((((K2.trans hk3).trans hk_f).trans hk_p).then ks_w6 fun i hi (e : i = f) => by omega).then ks_w7 fun i hi (e : i = p) => by omega); clear hb_g hk_g Hg_g hk2 hG2 hC2 hk3 hb_f hk_f Hg_f hb_p hk_p Hg_p hs_w6 ks_w6 hP6 hs_w7 ks_w7 hGk Kk hT2 K2 hb_k hk_k Hg_k)
    | ((with_reducible refine gate_dst (N := 24) rfl ?_); refine wpList_in (by rfl) (wp_load_row 27 _ rfl k rfl _ (trapC n tv tb) (0, 0) _ (hT.blk) Try.underlying27 rfl infoT ?_))
    | (go_at_call 11; refine (RB.out _).mono ?_; rintro e w8 ⟨rfl, k8⟩))
  have hI8 := hI.kp k8 (fun h => h)
  have hP8 := hP.kp k8 (fun h => h)
  have hT8 := hT.kp k8 (fun h => h)
  have K8 := K7.trans k8
  clear hI hP hT K7 k8
  have cQ1 := rg_calls (w := w8) fun W hW => D1.out f W (hI8.kp hW (fun h => h))
  have cQ2 := rg_calls (w := w8) fun W _ => D2.out W
  have cQ3 := rg_calls (w := w8) fun W _ => SM.out W
  have kF : ∀ W, Rg w8 W → W.heap[f]? = some (.cells S.cells 31 (0, 0)) := fun W h => (hI8.kp h.kp (fun h => h)).blk
  have kR : ∀ W, Rg w8 W → W.heap[p]? = some (.cells R.cells 34 (0, 0)) := fun W h => (hP8.kp h.kp (fun h => h)).blk
  have kT : ∀ W, Rg w8 W → W.heap[k]? = some (.cells (trapC n tv tb) 27 (0, 0)) := fun W h => (hT8.kp h.kp (fun h => h)).blk
  have KF := Aside0.mk kF
  have KR := Aside0.mk kR
  have KT := Aside0.mk kT
  clear kF kR kT
  refine wp_region_quiet_below (by kernel_rfl) (by kernel_rfl) ?_
  refine wpQuiet_ld (C := Rg w8) (by rfl) rfl k rfl 27 (trapC n tv tb) _ KT.out rfl rfl rfl ?_
  quiet_step (with_reducible exact cQ1 _ _)
  refine wpQuiet_ld (C := Rg w8) (by rfl) rfl p rfl 34 R.cells _ KR.out rfl rfl rfl ?_
  refine wpQuiet_ld (C := Rg w8) (by rfl) rfl k rfl 27 (trapC n tv tb) _ KT.out rfl rfl rfl ?_
  quiet_step (with_reducible exact cQ2 _ _)
  quiet_step (fail)
  quiet_step (fail)
  refine wpQuiet_ld (C := Rg w8) (by rfl) rfl f rfl 31 S.cells _ KF.out rfl rfl rfl ?_
  refine wpQuiet_ld (C := Rg w8) (by rfl) rfl p rfl 34 R.cells _ KR.out rfl rfl rfl ?_
  repeat (quiet_step (with_reducible exact cQ3 _ _))
  refine wpQuiet_nil ?_
  intro w9 hw9
  replace hw9 : Rg w8 w9 := hw9
  have hI9 := hI8.kp hw9.kp (fun h => h)
  have hP9 := hP8.kp hw9.kp (fun h => h)
  have hT9 := hT8.kp hw9.kp (fun h => h)
  have K9 := K8.trans hw9.kp
  clear hI8 hP8 hT8 K8 hw9 cQ1 cQ2 cQ3 KF KR KT
  go_wp2_with (first
    | ((with_reducible refine gate_dst (N := 40) rfl ?_); refine wpList_load_row rfl 27 _ rfl k rfl _ (trapC n tv tb) (0, 0) _ (hT9.blk) Try.underlying27 rfl infoT ?_)
    | (go_at_call 15; refine (E1.out f _ hI9).mono ?_; rintro e wa ⟨rfl, hIa, ka⟩; have hPa := hP9.kp ka hpf; have hTa := hT9.kp ka hkf; have Ka : KpN w wa := K9.then ka fun i hi (e : i = f) => by omega)
    | ((with_reducible refine gate_dst (N := 44) rfl ?_); refine wpList_load_row rfl 34 _ rfl p rfl _ (R.cells) (0, 0) _ (hPa.blk) Try.underlying34 rfl infoR ?_)
    | ((with_reducible refine gate_dst (N := 45) rfl ?_); refine wpList_load_row rfl 27 _ rfl k rfl _ (trapC n tv tb) (0, 0) _ (hTa.blk) Try.underlying27 rfl infoT ?_)
    | (go_at_call 16; refine (E2.out _).mono ?_; rintro e wb ⟨rfl, kb⟩; have hIb := hIa.kp kb (fun h => h); have Kb := Ka.trans kb)
    | ((with_reducible refine gate_dst (N := 11) rfl ?_); refine al_ev rfl rfl (N := 11) rfl _ (zeroR _) ?_; intro o hg_o wc hb_o hk_o; have Hg_o := Aside0.mk hg_o; clear hg_o)
    | (((with_reducible refine gate_store (t := 34) (p := 11) rfl ?_); refine st_ev rfl rfl rfl o (R2.cells) _ _ rfl rfl (hb_o) infoR rfl (VS.one _) ?_; intro wd hs_wd ks_wd); have hId := (hIb.kp hk_o (fun h => h)).kp ks_wd (fun e : f = o => by have := Hg_o.out; have := hIb.lt; omega); have how : w.heap.size ≤ o := (by have := Hg_o.out; have := Kb.size; omega); have Kd : KpN w wd := (Kb.trans hk_o).then ks_wd fun i hi (e : i = o) => by omega)
    | ((with_reducible refine gate_dst (N := 54) rfl ?_); refine wpList_in (by rfl) (wp_load_row 31 _ rfl f rfl _ (S2.cells) (0, 0) _ (hId.blk) Try.underlying31 rfl infoF ?_))
    | ((with_reducible refine gate_dst (N := 55) rfl ?_); refine wpList_in (by rfl) (wp_load_row 34 _ rfl o rfl _ (R2.cells) (0, 0) _ (hs_wd) Try.underlying34 rfl infoR ?_))
    | (go_at_call 14; refine (SM2.out _).mono ?_; rintro e we ⟨rfl, ke⟩))
  go_ret
  exact ⟨rfl, (Kd.trans ke).below (fun _ _ h => h.elim) (Nat.le_refl _)⟩
theorem tent_yes (m : Int) (A : Option Addr) (c : Nat) (l : Nat) (xs : List WR) (tc : Int) (tv : Nat) (tb : Bool) (pc : Nat) (w : World) (hC : Kd.C k68 w A xs.length xs) (hx : wrOk xs) (hl : U l) (hb : bgOk m xs.length) (hv : U tv) (hp : U pc) :
    Calls Try.prog 3 #[.agg (startC m A xs.length c (l : Int)), .agg (trapC tc tv tb), .int .u64 (pc : Int)] w fun e w' => e = .returned (.bool true) ∧ Below w.heap.size w w' := by
  cases hr : rightB tc
  · exact tent_bad m A c l xs tc tv tb pc w hC hx hl hb hr
  · cases hd : delegW (bgF m xs l) tc.toNat tb
    · exact tent_m m A c l xs tc tv tb pc w hC hx hl hb hv hp hr (fun S h => h ▸ hd)
    · exact tent_s m A c l xs tc tv tb pc w hC hx hl hb hv hp hr (fun S h => h ▸ hd)
end Go.Proofs.Ytnknfepbekaobaa.H
