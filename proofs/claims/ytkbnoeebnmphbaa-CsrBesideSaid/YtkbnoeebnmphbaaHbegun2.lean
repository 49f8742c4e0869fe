/- What the statements of the registers begin with (vireolaw08.Begun), walked by hand: where it is tried. -/
import Derived.Test.YtkbnoeebnmphbaaHbegun
namespace Go.Proofs.Ytkbnoeebnmphbaa.H
open Go.RowKit Go.Proofs.YtkbnoeebnmphbaaW.PrintWords Go.Proofs.YtkbnoeebnmphbaaW.PrintLast Go.Proofs.Ytkbnoeebnmphbaa.PAl Go.Proofs.Ytkbnoeebnmphbaa.Pure Go.Proofs.Ytkbnoeebnmphbaa.Vw
set_option linter.unusedVariables false
set_option linter.unusedSimpArgs false
/-- What a round of the writes keeps. -/
structure BInv (w W : World) (g r q f p : Nat) (m : Int) (A : Option Addr) (c : Nat) (l : Int) (xs : List WR) (k : Nat) : Prop where
  G : Bk W g (startC m A xs.length c l) 32
  F : St FT W f (foldF xs k)
  P : St RT W p (foldR xs k)
  R : St FT W r (VS.mk 0 fun _ => 0)
  Q : St RT W q (VS.mk 0 fun _ => 0)
  K : KpN w W
set_option maxHeartbeats 8000000 in
set_option maxRecDepth 100000 in
theorem begun_yes (m : Int) (A : Option Addr) (c : Nat) (l : Nat) (xs : List WR) (w : World) (hb : bgOk m xs.length) (hC : Kd.C k62 w A xs.length xs) (hx : wrOk xs) (hl : U l) :
    Calls Try.prog 12 #[.agg (startC m A xs.length c (l : Int))] w fun e w' => e = .returned (.tuple #[.agg (bgF m xs l).cells, .agg (bgR m xs l).cells, .bool true]) ∧ KpN w w' := by
  obtain ⟨m0, m3, m2, hn⟩ := hb
  have t1 : decide (m < 0) = false := decide_eq_false (by omega)
  have t2 : decide (3 < m) = false := decide_eq_false (by omega)
  have t3 : (m == 2) = false := beq_eq_false_iff_ne.2 m2
  have t4 : decide (40 < xs.length) = false := decide_eq_false (by omega)
  have t5 : decide (40 < (xs.length : Int)) = false := decide_eq_false (by omega)
  have Hm := Aside0.mk m2
  clear m2
  go_enter Try.func12, Try.ntmps12
  go_wp2_with (first
    | ((with_reducible refine gate_dst (N := 1) rfl ?_); refine bx_ev rfl rfl (N := 1) rfl (startC m A xs.length c (l : Int)) rfl ?_; intro g hg_g w1 hb_g hk_g; have Hg_g := Aside0.mk hg_g; clear hg_g)
    | ((with_reducible refine gate_dst (N := 2) rfl ?_); refine al_ev rfl rfl (N := 2) rfl _ (zeroF _) ?_; intro r hg_r w2 hb_r hk_r; have Hg_r := Aside0.mk hg_r; clear hg_r)
    | ((with_reducible refine gate_dst (N := 3) rfl ?_); refine al_ev rfl rfl (N := 3) rfl _ (zeroR _) ?_; intro q hg_q w3 hb_q hk_q; have Hg_q := Aside0.mk hg_q; clear hg_q)
    | (go_at_call 28; refine (begin_c _).mono ?_; rintro e w4 ⟨rfl, hk4⟩)
    | ((with_reducible refine gate_dst (N := 5) rfl ?_); refine al_ev rfl rfl (N := 5) rfl _ (zeroF _) ?_; intro f hg_f w5 hb_f hk_f; have Hg_f := Aside0.mk hg_f; clear hg_f)
    | ((with_reducible refine gate_store (t := 35) (p := 5) rfl ?_); refine st_ev rfl rfl rfl f (vs0.cells) _ _ rfl rfl (hb_f) infoF rfl (VS.one _) ?_; intro w6 hs_w6 ks_w6)
    | ((with_reducible refine gate_dst (N := 6) rfl ?_); refine al_ev rfl rfl (N := 6) rfl _ (zeroR _) ?_; intro p hg_p w7 hb_p hk_p; have Hg_p := Aside0.mk hg_p; clear hg_p)
    | (((with_reducible refine gate_store (t := 38) (p := 6) rfl ?_); refine st_ev rfl rfl rfl p (vs0.cells) _ _ rfl rfl (hb_p) infoR rfl (VS.one _) ?_; intro w8 hs_w8 ks_w8); obtain ⟨hG, hF, hP, hR, hQ, hlt, K8⟩ := begun_at (Hg_g.out) (Hg_r.out) (Hg_q.out) (Hg_f.out) (Hg_p.out) hb_g hb_r hb_q hs_w6 hs_w8 hk_g hk_r hk_q hk4 hk_f ks_w6 hk_p ks_w8; clear hb_g hb_r hb_q hs_w6 hs_w8 hk_g hk_r hk_q hk4 hk_f ks_w6 hk_p ks_w8 hb_f hb_p Hg_g Hg_r Hg_q Hg_f Hg_p; have c0 := hG.c 0; have c1 := hG.c 1; have c2 := hG.c 2; rw [show (startC m A xs.length c (l : Int))[0]? = some (.int .i64 m) from rfl] at c0; rw [show (startC m A xs.length c (l : Int))[1]? = some (.slice A xs.length c) from rfl] at c1; rw [show (startC m A xs.length c (l : Int))[2]? = some (.int .u64 (l : Int)) from rfl] at c2))
  go_loopw [7] (fun i W => ∃ k : Nat, k ≤ xs.length ∧ i = .int .i64 k ∧ BInv w W g r q f p m A c (l : Int) xs k) (fun i _ => xs.length - (intOf i).toNat)
  case atStart => exact ⟨0, Nat.zero_le _, rfl, ⟨hG, hF, hP, hR, hQ, K8⟩⟩
  case round =>
    obtain ⟨k, hk, rfl, inv⟩ := hrel
    have c1 := inv.G.c 1
    rw [show (startC m A xs.length c (l : Int))[1]? = some (.slice A xs.length c) from rfl] at c1
    by_cases hkn : k < xs.length
    · have hCr : Kd.C k62 wr A xs.length xs := Kd.C_below hC (inv.K.below (fun _ _ h => h.elim) (Nat.le_refl _))
      obtain ⟨ad, hA, e0, e1⟩ := at_T62 hCr (k : Int) (by omega) (by omega)
      have er : rd_T62 xs (k : Int) = xs.getD k z62 := by unfold rd_T62; rw [Int.toNat_natCast]
      obtain ⟨hv, hU⟩ := wrOk_at hx k
      subst hA
      have HE : Aside0 (∀ W : World, Kd.C k62 W (some ad) xs.length xs → W.cell? (ad.add (k * 2)) = some (.int .i64 (xs.getD k z62).f0) ∧ W.cell? ⟨(ad.add (k * 2)).block, (ad.add (k * 2)).off + 1, none⟩ = some (.int .u64 ((xs.getD k z62).f1.toNat : Int))) := ⟨fun W hW => by
        obtain ⟨ad2, hA2, q0, q1⟩ := at_T62 hW (k : Int) (by omega) (by omega)
        obtain rfl : ad = ad2 := Option.some.inj hA2
        rw [er, Int.toNat_natCast] at q0 q1
        rw [hv] at q1
        exact ⟨q0, q1⟩⟩
      clear e0 e1
      obtain ⟨e0, e1⟩ := HE.out wr hCr
      have hS : foldF xs (k + 1) = writeW (foldF xs k) (xs.getD k z62).f0 (xs.getD k z62).f1.toNat := rfl
      have hT : foldR xs (k + 1) = rwriteW (foldR xs k) (xs.getD k z62).f0 (xs.getD k z62).f1.toNat := rfl
      have HS := Aside0.mk hS
      have HT := Aside0.mk hT
      clear hS hT hv er
      generalize (xs.getD k z62).f0 = n0 at e0 HS HT HE
      generalize (xs.getD k z62).f1.toNat = v at e1 HS HT hU HE
      have i0 : (0 : Int) ≤ (k : Int) := by omega
      have i1 : (k : Int) < (xs.length : Int) := by omega
      have i2 : decide ((k : Int) < (xs.length : Int)) = true := decide_eq_true i1
      have i3 : decide (k < xs.length) = true := decide_eq_true hkn
      have HF := foldF_ok hx k
      have HR := foldR_ok hx k
      go_wp2
      go_still_tail 12, (by kernel_rfl)
      change wpList _ _ _ _ _ wr.drew
      go_wp2_with (go_at_call 15; refine (write_c f _ n0 v _ inv.F.drew HF hU).mono ?_; rintro e wa ⟨rfl, hSa, hKa⟩)
      have ka : Kp wr wa (fun i => i = f) := ((Kp.refl wr (fun i => i = f)).drew).trans hKa
      have hgf : g ≠ f := by have := hlt.b; have := hlt.c; have := hlt.d; omega
      have hpf : p ≠ f := by have := hlt.e; omega
      have hrf : r ≠ f := by have := hlt.c; have := hlt.d; omega
      have hqf : q ≠ f := by have := hlt.d; omega
      have hwf : w.heap.size ≤ f := by have := hlt.a; have := hlt.b; have := hlt.c; have := hlt.d; omega
      have Ga := inv.G.kp ka hgf
      have Pa := inv.P.kp ka hpf
      have Ra := inv.R.kp ka hrf
      have Qa := inv.Q.kp ka hqf
      have Ka : KpN w wa := inv.K.then ka fun i hi (e : i = f) => by omega
      clear hCr
      have hCa : Kd.C k62 wa (some ad) xs.length xs := Kd.C_below hC (Ka.below (fun _ _ h => h.elim) (Nat.le_refl _))
      have c1a := Ga.c 1
      rw [show (startC m (some ad) xs.length c (l : Int))[1]? = some (.slice (some ad) xs.length c) from rfl] at c1a
      obtain ⟨e0a, e1a⟩ := HE.out wa hCa
      clear e0 e1 c1 hKa
      go_wp2
      refine wp_region_still_tail 13 (by kernel_rfl) (by kernel_rfl) ?_
      simp only [List.take_succ_cons, List.take_zero, List.drop_succ_cons, List.drop_zero]
      refine wpStill_ld rfl rfl p rfl _ (foldR xs k).cells _ Pa.blk Try.underlying38 rfl infoR ?_
      repeat still_step
      try refine wpStill_nil ?_
      change wpList _ _ _ _ _ wa.drew
      go_wp2_with (first
        | (go_at_call 29; refine (rwrite_c (foldR xs k) n0 v _ HR hU).mono ?_; rintro e wb ⟨rfl, kb0⟩; have kb : KpN wa wb := ((Kp.refl wa (fun _ => False)).drew).trans kb0)
        | ((with_reducible refine gate_store (t := 38) (p := 6) rfl ?_); refine st_ev rfl rfl rfl p ((rwriteW (foldR xs k) n0 v).cells) _ _ rfl rfl ((Pa.kp kb (fun h => h)).blk) infoR rfl (VS.one _) ?_; intro wc hs_wc ks_wc))
      have kac : Kp wa wc (fun i => i = p) := (kb.mono (fun _ _ h => h.elim)).trans ks_wc
      have hgp : g ≠ p := by have := hlt.b; have := hlt.c; have := hlt.d; have := hlt.e; omega
      have hrp : r ≠ p := by have := hlt.c; have := hlt.d; have := hlt.e; omega
      have hqp : q ≠ p := by have := hlt.d; have := hlt.e; omega
      have hwp : w.heap.size ≤ p := by have := hlt.e; omega
      have REL : BInv w wc g r q f p m (some ad) c (l : Int) xs (k + 1) := ⟨Ga.kp kac hgp, by rw [HS.out]; exact hSa.kp kac (fun e : f = p => hpf e.symm), by rw [HT.out]; exact ⟨hs_wc⟩, Ra.kp kac hrp, Qa.kp kac hqp, Ka.then kac fun i hi (e : i = p) => by omega⟩
      go_roundw
      case rel => exact ⟨k + 1, by omega, by go_num, REL⟩
      case measure => simp [intOf]; omega
    · have hke : k = xs.length := by omega
      have i2 : decide ((k : Int) < (xs.length : Int)) = false := decide_eq_false (by omega)
      have i3 : decide (k < xs.length) = false := decide_eq_false hkn
      have HF := foldF_ok hx k
      have HR := foldR_ok hx k
      have HBF : Aside0 (bgF m xs l = ((foldF xs k).set 6 (l &&& 2696)).mode m) := ⟨by rw [hke]; rfl⟩
      have HBR : Aside0 (bgR m xs l = ((foldR xs k).set 3 (l &&& 2696)).mode m) := ⟨by rw [hke]; rfl⟩
      have c2r := inv.G.c 2
      have c0r := inv.G.c 0
      rw [show (startC m A xs.length c (l : Int))[2]? = some (.int .u64 (l : Int)) from rfl] at c2r
      rw [show (startC m A xs.length c (l : Int))[0]? = some (.int .i64 m) from rfl] at c0r
      have hgf : g ≠ f := by have := hlt.b; have := hlt.c; have := hlt.d; omega
      have hpf : p ≠ f := by have := hlt.e; omega
      have hrf : r ≠ f := by have := hlt.c; have := hlt.d; omega
      have hqf : q ≠ f := by have := hlt.d; omega
      have hwf : w.heap.size ≤ f := by have := hlt.a; have := hlt.b; have := hlt.c; have := hlt.d; omega
      have hgp : g ≠ p := by have := hlt.b; have := hlt.c; have := hlt.d; have := hlt.e; omega
      have hrp : r ≠ p := by have := hlt.c; have := hlt.d; have := hlt.e; omega
      have hqp : q ≠ p := by have := hlt.d; have := hlt.e; omega
      have hwp : w.heap.size ≤ p := by have := hlt.e; omega
      clear hke hC
      go_wp2_with (fail)
      refine (hold_c f (foldF xs k) l _ inv.F hl).mono ?_
      rintro e wa ⟨rfl, hSa, ka⟩
      have Ga := inv.G.kp ka hgf
      have c0a := Ga.c 0
      have c2a := Ga.c 2
      rw [show (startC m A xs.length c (l : Int))[2]? = some (.int .u64 (l : Int)) from rfl] at c2a
      rw [show (startC m A xs.length c (l : Int))[0]? = some (.int .i64 m) from rfl] at c0a
      go_wp2_with (fail)
      have Pa := inv.P.kp ka hpf
      have Ra := inv.R.kp ka hrf
      have Qa := inv.Q.kp ka hqf
      have Ka : KpN w wa := inv.K.then ka fun i hi (e : i = f) => by omega
      refine (and_rl l 2696 _ hl (by decide)).mono ?_
      rintro e wb ⟨rfl, kb⟩
      have Gb := Ga.kp kb (fun h => h)
      have c0b := Gb.c 0
      rw [show (startC m A xs.length c (l : Int))[0]? = some (.int .i64 m) from rfl] at c0b
      have Fb := hSa.kp kb (fun h => h)
      have Pb := Pa.kp kb (fun h => h)
      have c3 := Pb.c 3
      have f3 := Pb.f 3
      have fF := Fb.f 0
      have cF := Fb.c0
      have fP := Pb.f 0
      have cP := Pb.c0
      have hfp : f ≠ p := fun e => hpf e.symm
      have hfg : f ≠ g := fun e => hgf e.symm
      have hpg : p ≠ g := fun e => hgp e.symm
      go_wp2
      repeat (go_region; try go_wp2)
      have Rb := Ra.kp kb (fun h => h)
      have Qb := Qa.kp kb (fun h => h)
      have Kb := Ka.trans kb
      have hrq : r ≠ q := by have := hlt.c; omega
      all_goals
        refine two_out (by kernel_rfl) rfl rfl rfl rfl rfl (by kernel_rfl) (by kernel_rfl) (by kernel_rfl) (by kernel_rfl) (by kernel_rfl) (by kernel_rfl) (by kernel_rfl) (by kernel_rfl) rfl rfl rfl rfl rfl rfl rfl Try.underlying35 Try.underlying38 rfl rfl f p r q (((foldF xs k).set 6 (l &&& 2696)).mode m).cells (((foldR xs k).set 3 (l &&& 2696)).mode m).cells (VS.mk 0 fun _ => 0).cells (VS.mk 0 fun _ => 0).cells infoF infoR rfl rfl (VS.one _) (VS.one _)
          (St.blk (T := FT) (s := ((foldF xs k).set 6 (l &&& 2696)).mode m) (by repeat (first | with_reducible exact Fb | apply St.drew | refine St.far ?_ hfp _ | refine St.set0 ?_ _)))
          (St.blk (T := RT) (s := ((foldR xs k).set 3 (l &&& 2696)).mode m) (by repeat (first | with_reducible exact Pb | apply St.drew | refine St.far ?_ hpf _ | refine St.set0 ?_ _ | refine St.set ?_ _ _)))
          (St.blk (T := FT) (s := VS.mk 0 fun _ => 0) (by repeat (first | with_reducible exact Rb | apply St.drew | refine St.far ?_ hrp _ | refine St.far ?_ hrf _)))
          (St.blk (T := RT) (s := VS.mk 0 fun _ => 0) (by repeat (first | with_reducible exact Qb | apply St.drew | refine St.far ?_ hqp _ | refine St.far ?_ hqf _)))
          (fun e : p = r => hrp e.symm) (fun e : q = r => hrq e.symm) rfl rfl rfl rfl rfl rfl rfl rfl rfl rfl rfl ?_
        intro wz h9 h9b k9
        go_wp2
        refine bodyPost_ret (results_cct rfl _ _ r q (((foldF xs k).set 6 (l &&& 2696)).mode m).cells (((foldR xs k).set 3 (l &&& 2696)).mode m).cells (.bool true) _ _ rfl rfl rfl h9 h9b Try.underlying35 Try.underlying38 rfl rfl infoF infoR) rfl ?_
        rw [HBF.out, HBR.out]
        exact ⟨rfl, Kp.then (by repeat (first | with_reducible exact Kb | apply Kp.drew | refine Kp.setCell ?_ (.inr hwp) _ | refine Kp.setCell ?_ (.inr hwf) _)) k9 fun i hi (e : i = r ∨ i = q) => by have := hlt.a; have := hlt.b; have := hlt.c; omega⟩
end Go.Proofs.Ytkbnoeebnmphbaa.H
