/- CsrBits, walked by hand: any bit of the status is set and told. -/
import Derived.Test.YtkbnoeebnmphbaaHbitlem
import Derived.Deep.RegionWith
import Derived.Lib.QuietBelow
namespace Go.Proofs.Ytkbnoeebnmphbaa.H
open Go.RowKit Go.Proofs.YtkbnoeebnmphbaaW.PrintWords Go.Proofs.YtkbnoeebnmphbaaW.PrintLast Go.Proofs.Ytkbnoeebnmphbaa.PAl Go.Proofs.Ytkbnoeebnmphbaa.Pure Go.Proofs.Ytkbnoeebnmphbaa.Vw
set_option linter.unusedVariables false
set_option linter.unusedSimpArgs false
open Go.Sort
theorem bgF_ok {xs : List WR} (hx : wrOk xs) {l : Nat} (hl : U l) (m : Int) : (bgF m xs l).ok := VS.set_ok (foldF_ok hx _) 6 hl.and
theorem bgR_ok {xs : List WR} (hx : wrOk xs) {l : Nat} (hl : U l) (m : Int) : (bgR m xs l).ok := VS.set_ok (foldR_ok hx _) 3 hl.and
set_option maxHeartbeats 8000000 in
set_option maxRecDepth 100000 in
theorem bits_no (m : Int) (A : Option Addr) (c : Nat) (l : Nat) (xs : List WR) (b k : Int) (w : World) (hC : Kd.C k62 w A xs.length xs) (hb : ¬ bgOk m xs.length) :
    Calls Try.prog 7 #[.agg (startC m A xs.length c (l : Int)), .int .i64 b, .int .i64 k] w fun e w' => e = .returned (.bool true) ∧ Below w.heap.size w w' := by
  have Hb := Aside0.mk hb
  clear hb
  go_enter Try.func7, Try.ntmps7
  go_wp2_with (first
    | ((with_reducible refine gate_dst (N := 3) rfl ?_); refine bx_ev rfl rfl (N := 3) rfl (startC m A xs.length c (l : Int)) rfl ?_; intro g hg_g w1 hb_g hk_g; have Hg_g := Aside0.mk hg_g; clear hg_g)
    | (go_at_call 10; refine (awake_c _).mono ?_; rintro e w2 ⟨rfl, hk2⟩; have hG2 := (Bk.mk hb_g).kp hk2 (fun h => h); have hC2 : Kd.C k62 w2 A xs.length xs := Kd.C_below hC ((hk_g.trans hk2).below (fun _ _ h => h.elim) (Nat.le_refl _)))
    | ((with_reducible refine gate_dst (N := 18) rfl ?_); refine wpList_load_row rfl 32 _ rfl g rfl _ (startC m A xs.length c (l : Int)) (0, 0) _ (hG2.blk) Try.underlying32 rfl infoS ?_)
    | (go_at_call 12; refine ((begun_no m A c l xs _ Hb.out)).mono ?_; rintro e w3 ⟨rfl, hk3⟩)
    | ((with_reducible refine gate_dst (N := 7) rfl ?_); refine al_ev rfl rfl (N := 7) rfl _ (zeroF _) ?_; intro f hg_f w4 hb_f hk_f; have Hg_f := Aside0.mk hg_f; clear hg_f)
    | ((with_reducible refine gate_dst (N := 8) rfl ?_); refine al_ev rfl rfl (N := 8) rfl _ (zeroR _) ?_; intro p hg_p w5 hb_p hk_p; have Hg_p := Aside0.mk hg_p; clear hg_p)
    | (((with_reducible refine gate_store (t := 35) (p := 7) rfl ?_); refine st_ev rfl rfl rfl f (vs0.cells) _ _ rfl rfl (((Bk.mk hb_f).kp hk_p (fun h => h)).blk) infoF rfl (VS.one _) ?_; intro w6 hs_w6 ks_w6); have hpf : p ≠ f := (by have := Hg_p.out; have := blk_lt hb_f; omega); have hP6 := (Bk.mk hb_p).kp ks_w6 hpf)
    | (((with_reducible refine gate_store (t := 38) (p := 8) rfl ?_); refine st_ev rfl rfl rfl p (vs0.cells) _ _ rfl rfl (hP6.blk) infoR rfl (VS.one _) ?_; intro w7 hs_w7 ks_w7); have hI : St FT w7 f vs0 := (St.mk hs_w6).kp ks_w7 (fun e : f = p => hpf e.symm); have hP : St RT w7 p vs0 := St.mk hs_w7; have hfw : w.heap.size ≤ f := (by have := Hg_f.out; have := ((hk_g.trans hk2).trans hk3).size; omega); have hpw : w.heap.size ≤ p := (by have := Hg_p.out; have := (((hk_g.trans hk2).trans hk3).trans hk_f).size; omega); have K7 : KpN w w7 := ((((((hk_g.trans hk2).trans hk3).trans hk_f).trans hk_p).then ks_w6 fun i hi (e : i = f) => by omega).then ks_w7 fun i hi (e : i = p) => by omega); clear hb_g hk_g Hg_g hk2 hG2 hC2 hk3 hb_f hk_f Hg_f hb_p hk_p Hg_p hs_w6 ks_w6 hP6 hs_w7 ks_w7))
  go_ret
  exact ⟨rfl, K7.below (fun _ _ h => h.elim) (Nat.le_refl _)⟩
set_option maxHeartbeats 8000000 in
set_option maxRecDepth 100000 in
theorem bits_yes (m : Int) (A : Option Addr) (c : Nat) (l : Nat) (xs : List WR) (b k : Int) (w : World) (hC : Kd.C k62 w A xs.length xs) (hx : wrOk xs) (hl : U l) (hb : bgOk m xs.length) :
    Calls Try.prog 7 #[.agg (startC m A xs.length c (l : Int)), .int .i64 b, .int .i64 k] w fun e w' => e = .returned (.bool true) ∧ Below w.heap.size w w' := by
  have Hb := Aside0.mk hb
  have hRel := Rel.bg hx m l
  have hF : (bgF m xs l).ok := bgF_ok hx hl m
  have hR : (bgR m xs l).ok := bgR_ok hx hl m
  obtain ⟨S, hS⟩ : ∃ S, bgF m xs l = S := ⟨_, rfl⟩
  obtain ⟨R, hRR⟩ : ∃ R, bgR m xs l = R := ⟨_, rfl⟩
  have hmS : S.m = m := by rw [← hS]; rfl
  rw [hS] at hF hRel
  rw [hRR] at hR hRel
  have by_ := fun w hC => begun_yes m A c l xs w Hb.out hC hx hl
  rw [hS, hRR] at by_
  have By := Aside0.mk by_
  have HmS := Aside0.mk hmS
  clear by_ hS hRR hb hmS
  by_cases hbm : 0 ≤ b ∧ b ≤ 63 ∧ 0 ≤ k ∧ k ≤ 3
  case neg =>
    have hcase : (decide (b < 0) = true) ∨ (decide (b < 0) = false ∧ decide (63 < b) = true) ∨ (decide (b < 0) = false ∧ decide (63 < b) = false ∧ decide (k < 0) = true) ∨ (decide (b < 0) = false ∧ decide (63 < b) = false ∧ decide (k < 0) = false ∧ decide (3 < k) = true) := by
      by_cases h1 : b < 0
      · exact .inl (decide_eq_true h1)
      by_cases h2 : 63 < b
      · exact .inr (.inl ⟨decide_eq_false h1, decide_eq_true h2⟩)
      by_cases h3 : k < 0
      · exact .inr (.inr (.inl ⟨decide_eq_false h1, decide_eq_false h2, decide_eq_true h3⟩))
      · exact .inr (.inr (.inr ⟨decide_eq_false h1, decide_eq_false h2, decide_eq_false h3, decide_eq_true (by omega)⟩))
    clear hbm
    rcases hcase with t1 | ⟨t1, t2⟩ | ⟨t1, t2, t3⟩ | ⟨t1, t2, t3, t4⟩
    all_goals
      go_enter Try.func7, Try.ntmps7
      go_wp2_with (first
        | ((with_reducible refine gate_dst (N := 3) rfl ?_); refine bx_ev rfl rfl (N := 3) rfl (startC m A xs.length c (l : Int)) rfl ?_; intro g hg_g w1 hb_g hk_g; have Hg_g := Aside0.mk hg_g; clear hg_g)
        | (go_at_call 10; refine (awake_c _).mono ?_; rintro e w2 ⟨rfl, hk2⟩; have hG2 := (Bk.mk hb_g).kp hk2 (fun h => h); have hC2 : Kd.C k62 w2 A xs.length xs := Kd.C_below hC ((hk_g.trans hk2).below (fun _ _ h => h.elim) (Nat.le_refl _)))
        | ((with_reducible refine gate_dst (N := 18) rfl ?_); refine wpList_load_row rfl 32 _ rfl g rfl _ (startC m A xs.length c (l : Int)) (0, 0) _ (hG2.blk) Try.underlying32 rfl infoS ?_)
        | (go_at_call 12; refine ((By.out _ hC2)).mono ?_; rintro e w3 ⟨rfl, hk3⟩)
        | ((with_reducible refine gate_dst (N := 7) rfl ?_); refine al_ev rfl rfl (N := 7) rfl _ (zeroF _) ?_; intro f hg_f w4 hb_f hk_f; have Hg_f := Aside0.mk hg_f; clear hg_f)
        | ((with_reducible refine gate_dst (N := 8) rfl ?_); refine al_ev rfl rfl (N := 8) rfl _ (zeroR _) ?_; intro p hg_p w5 hb_p hk_p; have Hg_p := Aside0.mk hg_p; clear hg_p)
        | (((with_reducible refine gate_store (t := 35) (p := 7) rfl ?_); refine st_ev rfl rfl rfl f (S.cells) _ _ rfl rfl (((Bk.mk hb_f).kp hk_p (fun h => h)).blk) infoF rfl (VS.one _) ?_; intro w6 hs_w6 ks_w6); have hpf : p ≠ f := (by have := Hg_p.out; have := blk_lt hb_f; omega); have hP6 := (Bk.mk hb_p).kp ks_w6 hpf)
        | (((with_reducible refine gate_store (t := 38) (p := 8) rfl ?_); refine st_ev rfl rfl rfl p (R.cells) _ _ rfl rfl (hP6.blk) infoR rfl (VS.one _) ?_; intro w7 hs_w7 ks_w7); have hI : St FT w7 f S := (St.mk hs_w6).kp ks_w7 (fun e : f = p => hpf e.symm); have hP : St RT w7 p R := St.mk hs_w7; have hfw : w.heap.size ≤ f := (by have := Hg_f.out; have := ((hk_g.trans hk2).trans hk3).size; omega); have hpw : w.heap.size ≤ p := (by have := Hg_p.out; have := (((hk_g.trans hk2).trans hk3).trans hk_f).size; omega); have K7 : KpN w w7 := ((((((hk_g.trans hk2).trans hk3).trans hk_f).trans hk_p).then ks_w6 fun i hi (e : i = f) => by omega).then ks_w7 fun i hi (e : i = p) => by omega); clear hb_g hk_g Hg_g hk2 hG2 hC2 hk3 hb_f hk_f Hg_f hb_p hk_p Hg_p hs_w6 ks_w6 hP6 hs_w7 ks_w7))
      go_ret
      exact ⟨rfl, K7.below (fun _ _ h => h.elim) (Nat.le_refl _)⟩
  obtain ⟨b0, b1, k0, k1⟩ := hbm
  obtain ⟨B, rfl⟩ : ∃ B : Nat, b = B := ⟨b.toNat, by omega⟩
  obtain ⟨K, rfl⟩ : ∃ K : Nat, k = K := ⟨k.toNat, by omega⟩
  have hB : B ≤ 63 := by omega
  have hK : K ≤ 3 := by omega
  have t1 : decide ((B : Int) < 0) = false := decide_eq_false (by omega)
  have t2 : decide (63 < (B : Int)) = false := decide_eq_false (by omega)
  have t3 : decide ((K : Int) < 0) = false := decide_eq_false (by omega)
  have t4 : decide (3 < (K : Int)) = false := decide_eq_false (by omega)
  clear b0 b1 k0 k1
  have hS1 : (setW S B true).ok := setW_ok hF hB true
  have hS2 : (setW (setW S B true) B false).ok := setW_ok hS1 hB false
  have e1 : (setW S B true).r 1 = S.r 1 ||| 2 ^ B := rfl
  have e2 : (setW (setW S B true) B false).r 1 = minus (S.r 1) (2 ^ B) := minus_or (hF 1) hB
  have I1 : Aside0 (∀ (g : Nat) W, St FT W g (setW S B true) → Calls Try.prog 19 #[.pointer (some ⟨g, 0, none⟩), .int .i64 (B : Int)] W fun e w' => e = .returned (.bool true) ∧ ∃ m, w' = W.drewN m) := ⟨fun g W h => by
    have := is_c g (setW S B true) B W h hS1; rw [e1, bit_or hB] at this; exact this⟩
  have I2 : Aside0 (∀ (g : Nat) W, St FT W g (setW (setW S B true) B false) → Calls Try.prog 19 #[.pointer (some ⟨g, 0, none⟩), .int .i64 (B : Int)] W fun e w' => e = .returned (.bool false) ∧ ∃ m, w' = W.drewN m) := ⟨fun g W h => by
    have := is_c g (setW (setW S B true) B false) B W h hS2; rw [e2, bit_minus hB] at this; exact this⟩
  have P1 : Aside0 (∀ W, Calls Try.prog 21 #[.int .u64 (S.r 1 : Int), .int .i64 (B : Int), .int .i64 1, .int .u64 1] W fun e w' => e = .returned (.int .u64 ((setW S B true).r 1 : Int)) ∧ KpN W w') := ⟨fun W => by
    have := putr_c (S.r 1) B 1 1 W (hF 1) U.num; rw [put_one (hF 1) hB, ← e1] at this; exact this⟩
  have P2 : Aside0 (∀ W, Calls Try.prog 21 #[.int .u64 (S.r 1 : Int), .int .i64 (B : Int), .int .i64 1, .int .u64 0] W fun e w' => e = .returned (.int .u64 ((setW (setW S B true) B false).r 1 : Int)) ∧ KpN W w') := ⟨fun W => by
    have := putr_c (S.r 1) B 1 0 W (hF 1) U.num; rw [put_nought (hF 1) hB, ← e2] at this; exact this⟩
  have hKU : U K := ⟨by omega⟩
  have P3 : Aside0 (∀ W, Calls Try.prog 21 #[.int .u64 (S.r 1 : Int), .int .i64 11, .int .i64 2, .int .u64 (K : Int)] W fun e w' => e = .returned (.int .u64 (putW (S.r 1) 11 2 K : Int)) ∧ KpN W w') := ⟨fun W => putr_c (S.r 1) 11 2 K W (hF 1) hKU⟩
  have eK : IntKind.u64.wrap (K : Int) = (K : Int) := u64_nat K hKU.lt
  generalize hG1 : setW S B true = S1 at *
  generalize hG2 : setW S1 B false = S2 at *
  have HG1 := Aside0.mk hG1
  have HG2 := Aside0.mk hG2
  clear e1 e2 hG1 hG2
  go_enter Try.func7, Try.ntmps7
  go_wp2_with (first
    | ((with_reducible refine gate_dst (N := 3) rfl ?_); refine bx_ev rfl rfl (N := 3) rfl (startC m A xs.length c (l : Int)) rfl ?_; intro g hg_g w1 hb_g hk_g; have Hg_g := Aside0.mk hg_g; clear hg_g)
    | (go_at_call 10; refine (awake_c _).mono ?_; rintro e w2 ⟨rfl, hk2⟩; have hG2 := (Bk.mk hb_g).kp hk2 (fun h => h); have hC2 : Kd.C k62 w2 A xs.length xs := Kd.C_below hC ((hk_g.trans hk2).below (fun _ _ h => h.elim) (Nat.le_refl _)))
    | ((with_reducible refine gate_dst (N := 18) rfl ?_); refine wpList_load_row rfl 32 _ rfl g rfl _ (startC m A xs.length c (l : Int)) (0, 0) _ (hG2.blk) Try.underlying32 rfl infoS ?_)
    | (go_at_call 12; refine ((By.out _ hC2)).mono ?_; rintro e w3 ⟨rfl, hk3⟩)
    | ((with_reducible refine gate_dst (N := 7) rfl ?_); refine al_ev rfl rfl (N := 7) rfl _ (zeroF _) ?_; intro f hg_f w4 hb_f hk_f; have Hg_f := Aside0.mk hg_f; clear hg_f)
    | ((with_reducible refine gate_dst (N := 8) rfl ?_); refine al_ev rfl rfl (N := 8) rfl _ (zeroR _) ?_; intro p hg_p w5 hb_p hk_p; have Hg_p := Aside0.mk hg_p; clear hg_p)
    | (((with_reducible refine gate_store (t := 35) (p := 7) rfl ?_); refine st_ev rfl rfl rfl f (S.cells) _ _ rfl rfl (((Bk.mk hb_f).kp hk_p (fun h => h)).blk) infoF rfl (VS.one _) ?_; intro w6 hs_w6 ks_w6); have hpf : p ≠ f := (by have := Hg_p.out; have := blk_lt hb_f; omega); have hP6 := (Bk.mk hb_p).kp ks_w6 hpf)
    | (((with_reducible refine gate_store (t := 38) (p := 8) rfl ?_); refine st_ev rfl rfl rfl p (R.cells) _ _ rfl rfl (hP6.blk) infoR rfl (VS.one _) ?_; intro w7 hs_w7 ks_w7); have hI : St FT w7 f S := (St.mk hs_w6).kp ks_w7 (fun e : f = p => hpf e.symm); have hP : St RT w7 p R := St.mk hs_w7; have hfw : w.heap.size ≤ f := (by have := Hg_f.out; have := ((hk_g.trans hk2).trans hk3).size; omega); have hpw : w.heap.size ≤ p := (by have := Hg_p.out; have := (((hk_g.trans hk2).trans hk3).trans hk_f).size; omega); have K7 : KpN w w7 := ((((((hk_g.trans hk2).trans hk3).trans hk_f).trans hk_p).then ks_w6 fun i hi (e : i = f) => by omega).then ks_w7 fun i hi (e : i = p) => by omega); clear hb_g hk_g Hg_g hk2 hG2 hC2 hk3 hb_f hk_f Hg_f hb_p hk_p Hg_p hs_w6 ks_w6 hP6 hs_w7 ks_w7; have c1 := hI.c 1))
  refine (set_c f S B true _ hI hF hB).mono ?_
  rw [HG1.out]
  rintro e w8 ⟨rfl, hI8, k8⟩
  have d1 := hI8.c 1
  have K8 : KpN w w8 := K7.then k8 fun i hi (e : i = f) => by omega
  have hP8 := hP.kp k8 hpf
  clear c1 hI hP k8 K7
  go_wp2
  go_quiet ((go_at_call 19; exact Calls.quiet_of (I1.out f _ (hI8.drewN _))))
  go_wp2_with (fail)
  refine (set_c f S1 B false _ (hI8.drewN _) hS1 hB).mono ?_
  rw [HG2.out]
  rintro e w9 ⟨rfl, hI9, k9⟩
  have d2 := hI9.c 1
  have K9 : KpN w w9 := (K8.drewN _).then k9 fun i hi (e : i = f) => by omega
  have f2 := hI9.f 1
  clear d1 hI8 hP8 k9 K8
  go_wp2
  go_quiet ((go_at_call 19; exact Calls.quiet_of (I2.out f _ (hI9.drewN _))))
  go_wp2_with (fail)
  have hk0 := VS.set_ok hS2 1 (hF 1)
  refine (keep_c f (S2.set 1 (S.r 1)) K _ ((hI9.drewN _).set 1 (S.r 1)) hk0 hK).mono ?_
  rintro e wa ⟨rfl, hIa, ka⟩
  have hS4 : (keepW (S2.set 1 (S.r 1)) K).ok := VS.set_ok hk0 1 ((hF 1).put _ _ _)
  have e4 : (keepW (S2.set 1 (S.r 1)) K).r 1 = putW (S.r 1) 11 2 K := rfl
  have Ka : KpN w wa := ((K9.drewN _).setCell (p := ⟨f, 1, none⟩) (.inr hfw) (.int .u64 (S.r 1 : Int))).then ka fun i hi (e : i = f) => by omega
  have PV : Aside0 (∀ W, St FT W f (keepW (S2.set 1 (S.r 1)) K) → Calls Try.prog 22 #[.pointer (some ⟨f, 0, none⟩)] W fun e w' => e = .returned (.int .i64 (K : Int)) ∧ ∃ m, w' = W.drewN m) := ⟨fun W h => by
    have := previous_c f _ W h hS4; rw [e4, get_put_mode (hF 1) hK] at this; exact this⟩
  have ca := hIa.c 1
  rw [e4] at ca
  clear hk0 e4 d2 f2 hI9 K9 ka
  go_wp2
  have cQ1 : ∀ d os, Calls Try.prog 21 #[.int .u64 (S.r 1 : Int), .int .i64 (B : Int), .int .i64 1, .int .u64 1] (grow (redrawn wa d) os) fun e w'' => e = .returned (.int .u64 (S1.r 1 : Int)) ∧ ∃ p : Regrown, w'' = grow (redrawn wa p.d) p.os := fun d os => Calls.regrown_of ((P1.out _).mono fun _ _ h => ⟨h.1, h.2.below (fun _ _ h => h.elim) (Nat.le_refl _)⟩)
  have cQ2 : ∀ d os, Calls Try.prog 21 #[.int .u64 (S.r 1 : Int), .int .i64 (B : Int), .int .i64 1, .int .u64 0] (grow (redrawn wa d) os) fun e w'' => e = .returned (.int .u64 (S2.r 1 : Int)) ∧ ∃ p : Regrown, w'' = grow (redrawn wa p.d) p.os := fun d os => Calls.regrown_of ((P2.out _).mono fun _ _ h => ⟨h.1, h.2.below (fun _ _ h => h.elim) (Nat.le_refl _)⟩)
  have cQ3 : ∀ d os, Calls Try.prog 21 #[.int .u64 (S.r 1 : Int), .int .i64 11, .int .i64 2, .int .u64 (K : Int)] (grow (redrawn wa d) os) fun e w'' => e = .returned (.int .u64 (putW (S.r 1) 11 2 K : Int)) ∧ ∃ p : Regrown, w'' = grow (redrawn wa p.d) p.os := fun d os => Calls.regrown_of ((P3.out _).mono fun _ _ h => ⟨h.1, h.2.below (fun _ _ h => h.elim) (Nat.le_refl _)⟩)
  have cQV : ∀ d os, Calls Try.prog 22 #[.pointer (some ⟨f, 0, none⟩)] (grow (redrawn wa d) os) fun e w'' => e = .returned (.int .i64 (K : Int)) ∧ ∃ p : Regrown, w'' = grow (redrawn wa p.d) p.os := fun d os => Calls.regrown_of ((PV.out _ (hIa.kp (Kp.of_below (below_regrown wa d os) (fun _ => False)) (fun h => h))).mono fun _ _ h => ⟨h.1, by obtain ⟨m, rfl⟩ := h.2; exact ((Kp.refl _ (fun _ => False)).drewN m).below (fun _ _ h => h.elim) (Nat.le_refl _)⟩)
  have kc := cell_regrown ca
  clear ca hIa
  refine wp_region_quiet_below (by kernel_rfl) (by kernel_rfl) ?_
  repeat (quiet_step (first | with_reducible exact cQ1 _ _ | with_reducible exact cQ2 _ _ | with_reducible exact cQV _ _ | with_reducible exact cQ3 _ _))
  refine wpQuiet_nil ?_
  intro _ hw'
  obtain ⟨⟨dq, osq⟩, hw''⟩ := hw'
  subst hw''
  go_wp2
  go_ret
  exact ⟨rfl, (Ka.trans (Kp.of_below (below_regrown wa dq osq) _)).below (fun _ _ h => h.elim) (Nat.le_refl _)⟩
end Go.Proofs.Ytkbnoeebnmphbaa.H
