/- CsrTwice, walked by hand: written twice a register is as once; what is read, written again, changes nothing of it. -/
import Derived.Test.YtkbnoeebnmphbaaHtwicep
import Derived.Laws.StructEq
namespace Go.Proofs.Ytkbnoeebnmphbaa.H
open Go.RowKit Go.Proofs.YtkbnoeebnmphbaaW.PrintWords Go.Proofs.YtkbnoeebnmphbaaW.PrintLast Go.Proofs.Ytkbnoeebnmphbaa.PAl Go.Proofs.Ytkbnoeebnmphbaa.Pure Go.Proofs.Ytkbnoeebnmphbaa.Vw
set_option linter.unusedVariables false
set_option linter.unusedSimpArgs false
theorem bgF_ok {xs : List WR} (hx : wrOk xs) {l : Nat} (hl : U l) (m : Int) : (bgF m xs l).ok := VS.set_ok (foldF_ok hx _) 6 hl.and
theorem bgR_ok {xs : List WR} (hx : wrOk xs) {l : Nat} (hl : U l) (m : Int) : (bgR m xs l).ok := VS.set_ok (foldR_ok hx _) 3 hl.and
theorem eqSelf {P : Program} {w : World} {d : Nat} {xs : Array Value} : ∀ (fs : List Field), (∀ f ∈ fs, ∃ k k' v, P.underlying f.type = some (.int k) ∧ xs[f.offset]? = some (.int k' v)) → (Op.eqFields (d + 1) xs xs fs).run P w = .ok true w
  | [], _ => by simp [Op.eqFields]
  | f :: fs, h => by
    have ih := eqSelf (w := w) (d := d) fs (fun g hg => h g (by simp [hg]))
    obtain ⟨k, k', v, hu, hv⟩ := h f (by simp)
    have ha : (part f.type xs f.offset).run P w = .ok (.int k' v) w := by
      have hag : (isAgg f.type).run P w = .ok false w := by
        unfold isAgg; rw [Sem.run_bind, run_underlying hu w]; rfl
      unfold part; rw [Sem.run_bind, hag, Result.andThen_ok, hv]; rfl
    have he : (Op.equalIn (d + 1) f.type (.int k' v) (.int k' v)).run P w = .ok true w := by
      rw [run_equalIn_int (P := P) w d f.type k' k v v hu, beq_self_eq_true]
    by_cases hn : f.name = "_"
    · rw [Op.eqFields, if_neg (by simp [hn])]; exact ih
    · rw [Op.eqFields, if_pos hn]
      simp only [Sem.run_bind, ha, he, Result.andThen_ok]
      simpa using ih
theorem eqF_self (s : VS) (w : World) : (Op.equalIn 10000 FT (.agg s.cells) (.agg s.cells)).run Try.prog w = .ok true w := by
  have hf : Try.prog.underlying FT = some (.struct (Try.prog.fieldsOf FT)) := by kernel_rfl
  rw [run_equalIn_struct (P := Try.prog) w 9999 FT _ _ hf (by kernel_rfl)]
  apply eqSelf
  have key : ∀ f ∈ (Try.prog.fieldsOf FT).toList, (f.offset = 0 ∧ Try.prog.underlying f.type = some (.int .i64)) ∨ (1 ≤ f.offset ∧ f.offset ≤ 22 ∧ Try.prog.underlying f.type = some (.int .u64)) := by
    intro f hf
    simp only [Program.fieldsOf, Try.underlying35, List.mem_cons, List.not_mem_nil, or_false] at hf
    rcases hf with rfl | rfl | rfl | rfl | rfl | rfl | rfl | rfl | rfl | rfl | rfl | rfl | rfl | rfl | rfl | rfl | rfl | rfl | rfl | rfl | rfl | rfl | rfl
    · exact .inl ⟨rfl, Try.underlying33⟩
    all_goals exact .inr ⟨by decide, by decide, Try.underlying26⟩
  intro f hf
  rcases key f hf with ⟨h0, hu⟩ | ⟨h1, h2, hu⟩
  · exact ⟨_, _, _, hu, by rw [h0]; exact VS.at0 s⟩
  · exact ⟨_, _, _, hu, VS.at_ s _ h1 h2⟩
attribute [local go_sem high] eqF_self
set_option maxHeartbeats 8000000 in
set_option maxRecDepth 100000 in
theorem twice_no (m : Int) (A : Option Addr) (c : Nat) (l : Nat) (xs : List WR) (n : Int) (v : Nat) (w : World) (hC : Kd.C k62 w A xs.length xs) (hb : ¬ bgOk m xs.length) :
    Calls Try.prog 6 #[.agg (startC m A xs.length c (l : Int)), .int .i64 n, .int .u64 (v : Int)] w fun e w' => e = .returned (.bool true) ∧ Below w.heap.size w w' := by
  have Hb := Aside0.mk hb
  clear hb
  go_enter Try.func6, Try.ntmps6
  go_wp2_with (first
    | ((with_reducible refine gate_dst (N := 3) rfl ?_); refine bx_ev rfl rfl (N := 3) rfl (startC m A xs.length c (l : Int)) rfl ?_; intro g hg_g w1 hb_g hk_g; have Hg_g := Aside0.mk hg_g; clear hg_g)
    | (go_at_call 10; refine (awake_c _).mono ?_; rintro e w2 ⟨rfl, hk2⟩; have hG2 := (Bk.mk hb_g).kp hk2 (fun h => h); have hC2 : Kd.C k62 w2 A xs.length xs := Kd.C_below hC ((hk_g.trans hk2).below (fun _ _ h => h.elim) (Nat.le_refl _)))
    | ((with_reducible refine gate_dst (N := 15) rfl ?_); refine wpList_load_row rfl 32 _ rfl g rfl _ (startC m A xs.length c (l : Int)) (0, 0) _ (hG2.blk) Try.underlying32 rfl infoS ?_)
    | (go_at_call 12; refine ((begun_no m A c l xs _ Hb.out)).mono ?_; rintro e w3 ⟨rfl, hk3⟩)
    | ((with_reducible refine gate_dst (N := 7) rfl ?_); refine al_ev rfl rfl (N := 7) rfl _ (zeroF _) ?_; intro f hg_f w4 hb_f hk_f; have Hg_f := Aside0.mk hg_f; clear hg_f)
    | ((with_reducible refine gate_dst (N := 8) rfl ?_); refine al_ev rfl rfl (N := 8) rfl _ (zeroR _) ?_; intro p hg_p w5 hb_p hk_p; have Hg_p := Aside0.mk hg_p; clear hg_p)
    | (((with_reducible refine gate_store (t := 35) (p := 7) rfl ?_); refine st_ev rfl rfl rfl f (vs0.cells) _ _ rfl rfl (((Bk.mk hb_f).kp hk_p (fun h => h)).blk) infoF rfl (VS.one _) ?_; intro w6 hs_w6 ks_w6); have hpf : p ≠ f := (by have := Hg_p.out; have := blk_lt hb_f; omega); have hP6 := (Bk.mk hb_p).kp ks_w6 hpf)
    | (((with_reducible refine gate_store (t := 38) (p := 8) rfl ?_); refine st_ev rfl rfl rfl p (vs0.cells) _ _ rfl rfl (hP6.blk) infoR rfl (VS.one _) ?_; intro w7 hs_w7 ks_w7); have hI : St FT w7 f vs0 := (St.mk hs_w6).kp ks_w7 (fun e : f = p => hpf e.symm); have hP : St RT w7 p vs0 := St.mk hs_w7; have hfw : w.heap.size ≤ f := (by have := Hg_f.out; have := ((hk_g.trans hk2).trans hk3).size; omega); have hpw : w.heap.size ≤ p := (by have := Hg_p.out; have := (((hk_g.trans hk2).trans hk3).trans hk_f).size; omega); have K7 : KpN w w7 := ((((((hk_g.trans hk2).trans hk3).trans hk_f).trans hk_p).then ks_w6 fun i hi (e : i = f) => by omega).then ks_w7 fun i hi (e : i = p) => by omega); clear hb_g hk_g Hg_g hk2 hG2 hC2 hk3 hb_f hk_f Hg_f hb_p hk_p Hg_p hs_w6 ks_w6 hP6 hs_w7 ks_w7))
  go_ret
  exact ⟨rfl, K7.below (fun _ _ h => h.elim) (Nat.le_refl _)⟩
set_option maxHeartbeats 8000000 in
set_option maxRecDepth 100000 in
theorem twice_yes (m : Int) (A : Option Addr) (c : Nat) (l : Nat) (xs : List WR) (n : Int) (v : Nat) (w : World) (hC : Kd.C k62 w A xs.length xs) (hx : wrOk xs) (hl : U l) (hb : bgOk m xs.length)  (hv : U v) :
    Calls Try.prog 6 #[.agg (startC m A xs.length c (l : Int)), .int .i64 n, .int .u64 (v : Int)] w fun e w' => e = .returned (.bool true) ∧ Below w.heap.size w w' := by
  have Hb := Aside0.mk hb
  have hRel := Rel.bg hx m l
  have hF : (bgF m xs l).ok := bgF_ok hx hl m
  have hR : (bgR m xs l).ok := bgR_ok hx hl m
  obtain ⟨S, hS⟩ : ∃ S, bgF m xs l = S := ⟨_, rfl⟩
  obtain ⟨R, hRR⟩ : ∃ R, bgR m xs l = R := ⟨_, rfl⟩
  have hmS : S.m = m := by rw [← hS]; rfl
  rw [hS] at hF hRel
  rw [hRR] at hR hRel
  have by_ := fun w hC => begun_yes m A c l xs w Hb.out hC hx hl
  rw [hS, hRR] at by_
  have By := Aside0.mk by_
  have HmS := Aside0.mk hmS
  clear by_ hS hRR hb hmS
  have hS1 : (writeW S n v).ok := writeW_ok hF n hv
  have tw := write_twice hF n hv
  have rw_ := write_raw hF n hv
  have hraw : U (rawW (writeW S n v) n) := by
    unfold rawW; split
    · exact (hS1 5).or (hS1 6).minus
    · split
      · exact ((hS1 5).or (hS1 6).minus).and
      · exact readW_ok hS1 n
  generalize hG1 : writeW S n v = S1 at *
  have HG1 := Aside0.mk hG1
  have Tw := Aside0.mk tw
  have Rw := Aside0.mk rw_
  have hgd : Try.prog.eqGuardType Try.prog.depth FT = false := by kernel_rfl
  clear hG1 tw rw_
  go_enter Try.func6, Try.ntmps6
  go_wp2_with (first
    | ((with_reducible refine gate_dst (N := 3) rfl ?_); refine bx_ev rfl rfl (N := 3) rfl (startC m A xs.length c (l : Int)) rfl ?_; intro g hg_g w1 hb_g hk_g; have Hg_g := Aside0.mk hg_g; clear hg_g)
    | (go_at_call 10; refine (awake_c _).mono ?_; rintro e w2 ⟨rfl, hk2⟩; have hG2 := (Bk.mk hb_g).kp hk2 (fun h => h); have hC2 : Kd.C k62 w2 A xs.length xs := Kd.C_below hC ((hk_g.trans hk2).below (fun _ _ h => h.elim) (Nat.le_refl _)))
    | ((with_reducible refine gate_dst (N := 15) rfl ?_); refine wpList_load_row rfl 32 _ rfl g rfl _ (startC m A xs.length c (l : Int)) (0, 0) _ (hG2.blk) Try.underlying32 rfl infoS ?_)
    | (go_at_call 12; refine ((By.out _ hC2)).mono ?_; rintro e w3 ⟨rfl, hk3⟩)
    | ((with_reducible refine gate_dst (N := 7) rfl ?_); refine al_ev rfl rfl (N := 7) rfl _ (zeroF _) ?_; intro f hg_f w4 hb_f hk_f; have Hg_f := Aside0.mk hg_f; clear hg_f)
    | ((with_reducible refine gate_dst (N := 8) rfl ?_); refine al_ev rfl rfl (N := 8) rfl _ (zeroR _) ?_; intro p hg_p w5 hb_p hk_p; have Hg_p := Aside0.mk hg_p; clear hg_p)
    | (((with_reducible refine gate_store (t := 35) (p := 7) rfl ?_); refine st_ev rfl rfl rfl f (S.cells) _ _ rfl rfl (((Bk.mk hb_f).kp hk_p (fun h => h)).blk) infoF rfl (VS.one _) ?_; intro w6 hs_w6 ks_w6); have hpf : p ≠ f := (by have := Hg_p.out; have := blk_lt hb_f; omega); have hP6 := (Bk.mk hb_p).kp ks_w6 hpf)
    | (((with_reducible refine gate_store (t := 38) (p := 8) rfl ?_); refine st_ev rfl rfl rfl p (R.cells) _ _ rfl rfl (hP6.blk) infoR rfl (VS.one _) ?_; intro w7 hs_w7 ks_w7); have hI : St FT w7 f S := (St.mk hs_w6).kp ks_w7 (fun e : f = p => hpf e.symm); have hP : St RT w7 p R := St.mk hs_w7; have hfw : w.heap.size ≤ f := (by have := Hg_f.out; have := ((hk_g.trans hk2).trans hk3).size; omega); have hpw : w.heap.size ≤ p := (by have := Hg_p.out; have := (((hk_g.trans hk2).trans hk3).trans hk_f).size; omega); have K7 : KpN w w7 := ((((((hk_g.trans hk2).trans hk3).trans hk_f).trans hk_p).then ks_w6 fun i hi (e : i = f) => by omega).then ks_w7 fun i hi (e : i = p) => by omega); clear hb_g hk_g Hg_g hk2 hG2 hC2 hk3 hb_f hk_f Hg_f hb_p hk_p Hg_p hs_w6 ks_w6 hP6 hs_w7 ks_w7))
  refine (write_c f S n v _ hI hF hv).mono ?_
  rw [HG1.out]
  rintro e w8 ⟨rfl, hI8, k8⟩
  have K8 : KpN w w8 := K7.then k8 fun i hi (e : i = f) => by omega
  clear hI hP k8 K7
  go_wp2_with (first
    | ((with_reducible refine gate_dst (N := 25) rfl ?_); refine wpList_load_row rfl 35 _ rfl f rfl _ (S1.cells) (0, 0) _ (hI8.blk) Try.underlying35 rfl infoF ?_)
    | ((with_reducible refine gate_dst (N := 10) rfl ?_); refine al_ev rfl rfl (N := 10) rfl _ (zeroF _) ?_; intro o hg_o w9 hb_o hk_o; have Hg_o := Aside0.mk hg_o; clear hg_o)
    | (((with_reducible refine gate_store (t := 35) (p := 10) rfl ?_); refine st_ev rfl rfl rfl o (S1.cells) _ _ rfl rfl (hb_o) infoF rfl (VS.one _) ?_; intro w10 hs_w10 ks_w10); have hof : f ≠ o := (by have := Hg_o.out; have := hI8.lt; omega); have hI10 := (hI8.kp hk_o (fun h => h)).kp ks_w10 hof))
  refine (write_c f S1 n v _ hI10 hS1 hv).mono ?_
  rw [Tw.out]
  rintro e w11 ⟨rfl, hI11, k11⟩
  have hO11 : St FT w11 o S1 := (St.mk hs_w10).kp k11 (fun e : o = f => hof e.symm)
  have hwo : w.heap.size ≤ o := by have := Hg_o.out; have := K8.size; omega
  have K11 : KpN w w11 := ((K8.trans hk_o).then ks_w10 fun i hi (e : i = o) => by omega).then k11 fun i hi (e : i = f) => by omega
  clear hI10 hs_w10 ks_w10 hk_o hb_o K8 hI8 Hg_o k11
  go_wp2_with (first
    | ((with_reducible refine gate_dst (N := 29) rfl ?_); refine wpList_load_row rfl 35 _ rfl f rfl _ (S1.cells) (0, 0) _ (hI11.blk) Try.underlying35 rfl infoF ?_)
    | ((with_reducible refine gate_dst (N := 30) rfl ?_); refine wpList_load_row rfl 35 _ rfl o rfl _ (S1.cells) (0, 0) _ (hO11.blk) Try.underlying35 rfl infoF ?_)
    | (go_at_call 16; refine (read_c f S1 n _ hI11 hS1).mono ?_; rintro e w12 ⟨rfl, m12, rfl⟩))
  refine (raw_c f S1 n _ (hI11.drewN _) hS1).mono ?_
  rintro e w13 ⟨rfl, m13, rfl⟩
  go_wp2_with (fail)
  refine (write_c f S1 n (rawW S1 n) _ (hI11.drewN _) hS1 hraw).mono ?_
  rw [Rw.out]
  rintro e w14 ⟨rfl, hI14, k14⟩
  go_wp2_with (go_at_call 16; refine (read_c f S1 n _ hI14 hS1).mono ?_; rintro e w15 ⟨rfl, m15, rfl⟩)
  go_ret
  exact ⟨rfl, (((K11.drewN _).then k14 fun i hi (e : i = f) => by omega).drewN _).below (fun _ _ h => h.elim) (Nat.le_refl _)⟩
end Go.Proofs.Ytkbnoeebnmphbaa.H
