/- CsrMay, walked by hand. -/
import Derived.Test.YtkbnoeebnmphbaaHmay3
import Derived.Lib.QuietBelow
namespace Go.Proofs.Ytkbnoeebnmphbaa.H
open Go.RowKit Go.Proofs.YtkbnoeebnmphbaaW.PrintWords Go.Proofs.YtkbnoeebnmphbaaW.PrintLast Go.Proofs.Ytkbnoeebnmphbaa.PAl Go.Proofs.Ytkbnoeebnmphbaa.Pure Go.Proofs.Ytkbnoeebnmphbaa.Vw
set_option linter.unusedVariables false
set_option linter.unusedSimpArgs false
open Go.Sort
theorem bgF_okM {xs : List WR} (hx : wrOk xs) {l : Nat} (hl : U l) (m : Int) : (bgF m xs l).ok := VS.set_ok (foldF_ok hx _) 6 hl.and
theorem bgR_okM {xs : List WR} (hx : wrOk xs) {l : Nat} (hl : U l) (m : Int) : (bgR m xs l).ok := VS.set_ok (foldR_ok hx _) 3 hl.and
/-- A whole row, read in a region that draws. -/
theorem wpQuiet_ld {P : Program} {ops : Array Oper} {C : World → Prop} {Q : Act → Prop} {a : Act} {o : Oper} {rest : List Oper} (hgd : Region.wanted o (yielded ops a.tmps) = true) {ty : TypeId} {x : Operand} (ho : o.op = .load ty x) (g : Nat) (hx : a.eval x = .pointer (some ⟨g, 0, none⟩)) (t : TypeId) (cs : Array Value) (d : TypeDesc)
    (hg : ∀ w, C w → w.heap[g]? = some (.cells cs t (0, 0))) (hu : P.underlying ty = some d) (hd : (match d with | .struct _ | .array _ _ => true | _ => false) = true) (hi : (P.info? ty).map (·.size) = some cs.size)
    (h : wpQuiet P ops C Q rest (a.put o.dst (.agg cs))) : wpQuiet P ops C Q (o :: rest) a := by
  show if _ then _ else _
  rw [if_pos hgd]
  refine ⟨.agg cs, fun w hC => ?_, h⟩
  unfold Oper.quietAt execOp
  simp only [ho, hx, Instr.loadAt, Instr.sureAddr, Sem.run_bind, Sem.run_pure, Result.andThen_ok, run_loadVar_row w g t ty cs (0, 0) d (hg w hC) hu hd hi]
  exact ⟨rfl, rfl⟩
set_option maxHeartbeats 8000000 in
set_option maxRecDepth 100000 in
theorem may_no (m : Int) (A : Option Addr) (c : Nat) (l : Nat) (xs : List WR) (n : Int) (wr : Bool) (w : World) (hC : Kd.C k62 w A xs.length xs) (hb : ¬ bgOk m xs.length) :
    Calls Try.prog 8 #[.agg (startC m A xs.length c (l : Int)), .int .i64 n, .bool wr] w fun e w' => e = .returned (.bool true) ∧ Below w.heap.size w w' := by
  have Hb := Aside0.mk hb
  clear hb
  go_enter Try.func8, Try.ntmps8
  go_wp2_with (first
    | ((with_reducible refine gate_dst (N := 3) rfl ?_); refine bx_ev rfl rfl (N := 3) rfl (startC m A xs.length c (l : Int)) rfl ?_; intro g hg_g w1 hb_g hk_g; have Hg_g := Aside0.mk hg_g; clear hg_g)
    | (go_at_call 10; refine (awake_c _).mono ?_; rintro e w2 ⟨rfl, hk2⟩; have hG2 := (Bk.mk hb_g).kp hk2 (fun h => h); have hC2 : Kd.C k62 w2 A xs.length xs := Kd.C_below hC ((hk_g.trans hk2).below (fun _ _ h => h.elim) (Nat.le_refl _)))
    | ((with_reducible refine gate_dst (N := 13) rfl ?_); refine wpList_load_row rfl 32 _ rfl g rfl _ (startC m A xs.length c (l : Int)) (0, 0) _ (hG2.blk) Try.underlying32 rfl infoS ?_)
    | (go_at_call 12; refine ((begun_no m A c l xs _ Hb.out)).mono ?_; rintro e w3 ⟨rfl, hk3⟩)
    | ((with_reducible refine gate_dst (N := 7) rfl ?_); refine al_ev rfl rfl (N := 7) rfl _ (zeroF _) ?_; intro f hg_f w4 hb_f hk_f; have Hg_f := Aside0.mk hg_f; clear hg_f)
    | ((with_reducible refine gate_dst (N := 8) rfl ?_); refine al_ev rfl rfl (N := 8) rfl _ (zeroR _) ?_; intro p hg_p w5 hb_p hk_p; have Hg_p := Aside0.mk hg_p; clear hg_p)
    | (((with_reducible refine gate_store (t := 35) (p := 7) rfl ?_); refine st_ev rfl rfl rfl f (vs0.cells) _ _ rfl rfl (((Bk.mk hb_f).kp hk_p (fun h => h)).blk) infoF rfl (VS.one _) ?_; intro w6 hs_w6 ks_w6); have hpf : p ≠ f := (by have := Hg_p.out; have := blk_lt hb_f; omega); have hP6 := (Bk.mk hb_p).kp ks_w6 hpf)
    | (((with_reducible refine gate_store (t := 38) (p := 8) rfl ?_); refine st_ev rfl rfl rfl p (vs0.cells) _ _ rfl rfl (hP6.blk) infoR rfl (VS.one _) ?_; intro w7 hs_w7 ks_w7); have hI : St FT w7 f vs0 := (St.mk hs_w6).kp ks_w7 (fun e : f = p => hpf e.symm); have hP : St RT w7 p vs0 := St.mk hs_w7; have hfw : w.heap.size ≤ f := (by have := Hg_f.out; have := ((hk_g.trans hk2).trans hk3).size; omega); have hpw : w.heap.size ≤ p := (by have := Hg_p.out; have := (((hk_g.trans hk2).trans hk3).trans hk_f).size; omega); have K7 : KpN w w7 := ((((((hk_g.trans hk2).trans hk3).trans hk_f).trans hk_p).then ks_w6 fun i hi (e : i = f) => by omega).then ks_w7 fun i hi (e : i = p) => by omega); clear hb_g hk_g Hg_g hk2 hG2 hC2 hk3 hb_f hk_f Hg_f hb_p hk_p Hg_p hs_w6 ks_w6 hP6 hs_w7 ks_w7))
  go_quiet (fail)
  go_wp2
  go_ret
  exact ⟨rfl, (K7.drewN _).below (fun _ _ h => h.elim) (Nat.le_refl _)⟩
set_option maxHeartbeats 8000000 in
set_option maxRecDepth 100000 in
theorem may_yes (m : Int) (A : Option Addr) (c : Nat) (l : Nat) (xs : List WR) (n : Int) (wr : Bool) (w : World) (hC : Kd.C k62 w A xs.length xs) (hx : wrOk xs) (hl : U l) (hb : bgOk m xs.length) :
    Calls Try.prog 8 #[.agg (startC m A xs.length c (l : Int)), .int .i64 n, .bool wr] w fun e w' => e = .returned (.bool true) ∧ Below w.heap.size w w' := by
  have Hb := Aside0.mk hb
  have hRel := Rel.bg hx m l
  have hF : (bgF m xs l).ok := bgF_okM hx hl m
  have hR : (bgR m xs l).ok := bgR_okM hx hl m
  obtain ⟨S, hS⟩ : ∃ S, bgF m xs l = S := ⟨_, rfl⟩
  obtain ⟨R, hRR⟩ : ∃ R, bgR m xs l = R := ⟨_, rfl⟩
  have hmS : S.m = m := by rw [← hS]; rfl
  rw [hS] at hF hRel
  rw [hRR] at hR hRel
  have by_ := fun w hC => begun_yes m A c l xs w Hb.out hC hx hl
  rw [hS, hRR] at by_
  have By := Aside0.mk by_
  have HmS := Aside0.mk hmS
  clear by_ hS hRR hb hmS
  have hsame := may_rel hRel n wr
  obtain ⟨v, hv⟩ : ∃ v, mayW S n wr = v := ⟨_, rfl⟩
  have V1 : Aside0 (∀ (g : Nat) W, St FT W g S → Calls Try.prog 23 #[.pointer (some ⟨g, 0, none⟩), .int .i64 n, .bool wr] W fun e w' => e = .returned (.bool v) ∧ KpN W w') := ⟨fun g W h => by
    have := may_c g S n wr W h hF; rw [hv] at this; exact this⟩
  have V2 : Aside0 (∀ W, Calls Try.prog 24 #[.agg R.cells, .int .i64 n, .bool wr] W fun e w' => e = .returned (.bool v) ∧ KpN W w') := ⟨fun W => by
    have := rmay_c R n wr W hR; rw [← hsame, hv] at this; exact this⟩
  clear hsame hv
  go_enter Try.func8, Try.ntmps8
  go_wp2_with (first
    | ((with_reducible refine gate_dst (N := 3) rfl ?_); refine bx_ev rfl rfl (N := 3) rfl (startC m A xs.length c (l : Int)) rfl ?_; intro g hg_g w1 hb_g hk_g; have Hg_g := Aside0.mk hg_g; clear hg_g)
    | (go_at_call 10; refine (awake_c _).mono ?_; rintro e w2 ⟨rfl, hk2⟩; have hG2 := (Bk.mk hb_g).kp hk2 (fun h => h); have hC2 : Kd.C k62 w2 A xs.length xs := Kd.C_below hC ((hk_g.trans hk2).below (fun _ _ h => h.elim) (Nat.le_refl _)))
    | ((with_reducible refine gate_dst (N := 13) rfl ?_); refine wpList_load_row rfl 32 _ rfl g rfl _ (startC m A xs.length c (l : Int)) (0, 0) _ (hG2.blk) Try.underlying32 rfl infoS ?_)
    | (go_at_call 12; refine ((By.out _ hC2)).mono ?_; rintro e w3 ⟨rfl, hk3⟩)
    | ((with_reducible refine gate_dst (N := 7) rfl ?_); refine al_ev rfl rfl (N := 7) rfl _ (zeroF _) ?_; intro f hg_f w4 hb_f hk_f; have Hg_f := Aside0.mk hg_f; clear hg_f)
    | ((with_reducible refine gate_dst (N := 8) rfl ?_); refine al_ev rfl rfl (N := 8) rfl _ (zeroR _) ?_; intro p hg_p w5 hb_p hk_p; have Hg_p := Aside0.mk hg_p; clear hg_p)
    | (((with_reducible refine gate_store (t := 35) (p := 7) rfl ?_); refine st_ev rfl rfl rfl f (S.cells) _ _ rfl rfl (((Bk.mk hb_f).kp hk_p (fun h => h)).blk) infoF rfl (VS.one _) ?_; intro w6 hs_w6 ks_w6); have hpf : p ≠ f := (by have := Hg_p.out; have := blk_lt hb_f; omega); have hP6 := (Bk.mk hb_p).kp ks_w6 hpf)
    | (((with_reducible refine gate_store (t := 38) (p := 8) rfl ?_); refine st_ev rfl rfl rfl p (R.cells) _ _ rfl rfl (hP6.blk) infoR rfl (VS.one _) ?_; intro w7 hs_w7 ks_w7); have hI : St FT w7 f S := (St.mk hs_w6).kp ks_w7 (fun e : f = p => hpf e.symm); have hP : St RT w7 p R := St.mk hs_w7; have hfw : w.heap.size ≤ f := (by have := Hg_f.out; have := ((hk_g.trans hk2).trans hk3).size; omega); have hpw : w.heap.size ≤ p := (by have := Hg_p.out; have := (((hk_g.trans hk2).trans hk3).trans hk_f).size; omega); have K7 : KpN w w7 := ((((((hk_g.trans hk2).trans hk3).trans hk_f).trans hk_p).then ks_w6 fun i hi (e : i = f) => by omega).then ks_w7 fun i hi (e : i = p) => by omega); clear hb_g hk_g Hg_g hk2 hG2 hC2 hk3 hb_f hk_f Hg_f hb_p hk_p Hg_p hs_w6 ks_w6 hP6 hs_w7 ks_w7))
  have cQ1 : ∀ d os, Calls Try.prog 23 #[.pointer (some ⟨f, 0, none⟩), .int .i64 n, .bool wr] (grow (redrawn w7 d) os) fun e w'' => e = .returned (.bool v) ∧ ∃ p : Regrown, w'' = grow (redrawn w7 p.d) p.os := fun d os => Calls.regrown_of ((V1.out f _ (hI.kp (Kp.of_below (below_regrown w7 d os) (fun _ => False)) (fun h => h))).mono fun _ _ h => ⟨h.1, h.2.below (fun _ _ h => h.elim) (Nat.le_refl _)⟩)
  have cQ2 : ∀ d os, Calls Try.prog 24 #[.agg R.cells, .int .i64 n, .bool wr] (grow (redrawn w7 d) os) fun e w'' => e = .returned (.bool v) ∧ ∃ p : Regrown, w'' = grow (redrawn w7 p.d) p.os := fun d os => Calls.regrown_of ((V2.out _).mono fun _ _ h => ⟨h.1, h.2.below (fun _ _ h => h.elim) (Nat.le_refl _)⟩)
  have kb : ∀ w', (∃ q : Regrown, w' = grow (redrawn w7 q.d) q.os) → w'.heap[p]? = some (.cells R.cells 38 (0, 0)) := fun w' ⟨q, hq⟩ => by subst hq; exact (hP.kp (Kp.of_below (below_regrown w7 q.d q.os) (fun _ => False)) (fun h => h)).blk
  have KB := Aside0.mk kb
  clear kb hI hP
  refine wp_region_quiet_below (by kernel_rfl) (by kernel_rfl) ?_
  repeat (quiet_step (with_reducible exact cQ1 _ _))
  refine wpQuiet_ld (by rfl) rfl p rfl 38 R.cells _ KB.out rfl rfl rfl ?_
  repeat (quiet_step (with_reducible exact cQ2 _ _))
  refine wpQuiet_nil ?_
  intro _ hw'
  obtain ⟨⟨dq, osq⟩, hw''⟩ := hw'
  subst hw''
  go_wp2
  go_ret
  exact ⟨rfl, (K7.trans (Kp.of_below (below_regrown w7 dq osq) _)).below (fun _ _ h => h.elim) (Nat.le_refl _)⟩
end Go.Proofs.Ytkbnoeebnmphbaa.H
