/- The reference's traps, walked by hand, and the plain laws of both, for every state. -/
import Derived.Test.YtnknfepbekaobaaTc
import Derived.Test.YtnknfepbekaobaaTb
import Derived.OrdersHeld
/- The document's answer for traps (vireoref09), walked by hand: a trap is taken. -/
namespace Go.Proofs.Ytnknfepbekaobaa.H
open Go.RowKit Go.Proofs.YtnknfepbekaobaaW.PrintWords Go.Proofs.YtnknfepbekaobaaW.PrintLast Go.Proofs.Ytnknfepbekaobaa.PAl Go.Proofs.Ytnknfepbekaobaa.Pure Go.Proofs.Ytnknfepbekaobaa.Vw
set_option linter.unusedVariables false
set_option linter.unusedSimpArgs false
open Go.Sort
theorem codeW_sum {c : Nat} (h : c < 64) (b : Bool) : codeW c b = c + flagW b * 9223372036854775808 := by
  unfold codeW flagW
  cases b
  · simp
  · rw [if_pos rfl, if_pos rfl, Nat.one_mul, Nat.or_comm, Nat.add_comm]
    exact (Nat.two_pow_add_eq_or_of_lt (i := 63) (b := c) (by omega) 1).symm
theorem tb_not64 (n i : Nat) (h : n < 18446744073709551616) : (18446744073709551615 - n).testBit i = (decide (i < 64) && !n.testBit i) := tb_not n i h
theorem minus3 {x : Nat} (hx : U x) : minus x 3 = x - x % 4 := by
  have h4 : x - x % 4 = 4 * (x / 4) := by omega
  rw [h4]
  apply eq64 (hx.minus).lt (by have := hx.lt; omega)
  intro i hi
  unfold minus
  rw [Nat.testBit_and, tb_not64 3 i (by decide), show 4 * (x / 4) = 2 ^ 2 * (x / 2 ^ 2) from rfl, Nat.testBit_two_pow_mul, Nat.testBit_div_two_pow]
  by_cases h2 : 2 ≤ i
  · have h3 : (3 : Nat).testBit i = false := Nat.testBit_lt_two_pow (Nat.lt_of_lt_of_le (by decide : 3 < 2 ^ 2) (Nat.pow_le_pow_right (by decide) h2))
    rw [h3, show i - 2 + 2 = i by omega]; simp [hi, h2]
  · have : i = 0 ∨ i = 1 := by omega
    rcases this with rfl | rfl
    · simp
    · rw [show Nat.testBit 3 1 = true from by decide]; simp
theorem flag_q (b : Bool) (w : World) : Calls Try.prog 43 #[.bool b] w fun e w' => e = .returned (.int .u64 ((flagW b : Nat) : Int)) ∧ ∃ n, w' = w.drewN n := (flag_r b w).mono fun e w' h => ⟨h.1, 0, h.2.symm⟩
def rentS (s : VS) (c v : Nat) (b : Bool) (pc : Nat) : VS :=
  (rsetW (rsetW (rsetW (((s.set 17 (codeW c b)).set 16 (minus pc 3)).set 18 v) 5 (bitW (s.r 1) 1)) 1 false) 8 (s.m == 1)).mode 1
def rentM (s : VS) (c v : Nat) (b : Bool) (pc : Nat) (k : Nat) : VS :=
  let s3 := rsetW (rsetW (((s.set 11 (codeW c b)).set 10 (minus pc 3)).set 12 v) 7 (bitW (s.r 1) 3)) 3 false
  (s3.set 1 (putW (s3.r 1) 11 2 k)).mode 3
set_option maxHeartbeats 8000000 in
set_option maxRecDepth 100000 in
theorem renter_s (s : VS) (c v : Nat) (b : Bool) (pc : Nat) (w : World) (hs : s.ok) (hc : c < 64) (hv : U v) (hp : U pc) (hd : rdelegW s c b = true) :
    Calls Try.prog 16 #[.agg s.cells, .agg (trapC c v b), .int .u64 (pc : Int)] w fun e w' => e = .returned (.tuple #[.agg (rentS s c v b pc).cells, .int .u64 ((targetW (s.r 13) c b : Nat) : Int)]) ∧ KpN w w' := by
  have DL : Aside0 (∀ W, Calls Try.prog 13 #[.agg s.cells, .agg (trapC c v b)] W fun e w' => e = .returned (.bool true) ∧ KpN W w') := ⟨fun W => by
    have := deleg_r s c v b W hs; rw [hd] at this; exact this⟩
  have q1 : IntKind.u64.wrap (((flagW b : Nat) : Int) * 9223372036854775808) = ((flagW b : Nat) : Int) * 9223372036854775808 := by
    rw [IntKind.wrap_u64]; cases b <;> decide
  have q2 : IntKind.u64.wrap ((c : Int) + ((flagW b : Nat) : Int) * 9223372036854775808) = ((codeW c b : Nat) : Int) := by
    rw [IntKind.wrap_u64, codeW_sum hc]; cases b <;> simp [flagW] <;> omega
  have e0 : IntKind.u64.wrap (c : Int) = (c : Int) := u64_nat c (by omega)
  have HP := Aside0.mk hp
  have HS := Aside0.mk hs
  clear hd
  go_enter Try.func16, Try.ntmps16
  go_wp2_with (first
    | (((with_reducible refine gate_dst (N := 3) rfl ?_); refine bx_ev rfl rfl (N := 3) rfl (s.cells) rfl ?_; intro g hg_g w1 hb_g hk_g; have Hg_g := Aside0.mk hg_g; clear hg_g); have hI1 : St RT w1 g s := St.mk hb_g)
    | (((with_reducible refine gate_dst (N := 4) rfl ?_); refine bx_ev rfl rfl (N := 4) rfl (trapC c v b) rfl ?_; intro k hg_k w2 hb_k hk_k; have Hg_k := Aside0.mk hg_k; clear hg_k); have hI2 := hI1.kp hk_k (fun h => h); have hT2 := Bk.mk hb_k)
    | (((with_reducible refine gate_dst (N := 6) rfl ?_); refine al_ev rfl rfl (N := 6) rfl _ (zeroR _) ?_; intro h hg_h w3 hb_h hk_h; have Hg_h := Aside0.mk hg_h; clear hg_h); have hI3 := hI2.kp hk_h (fun h => h); have hT3 := hT2.kp hk_h (fun h => h); have hH3 : St RT w3 h (VS.mk 0 fun _ => 0) := St.mk hb_h))
  have hgk : g ≠ k := by have := Hg_k.out; have := hI1.lt; omega
  have hgh : g ≠ h := by have := Hg_h.out; have := hI2.lt; omega
  have hkh : k ≠ h := by have := Hg_h.out; have := blk_lt hT2.blk; omega
  have hgw : w.heap.size ≤ g := by have := Hg_g.out; omega
  have hkw : w.heap.size ≤ k := by have := Hg_k.out; have := hk_g.size; omega
  have hhw : w.heap.size ≤ h := by have := Hg_h.out; have := hk_g.size; have := hk_k.size; omega
  have K3 : KpN w w3 := (hk_g.trans hk_k).trans hk_h
  clear hI1 hI2 hT2 hb_g hb_k hb_h hk_g hk_k hk_h Hg_g Hg_k Hg_h
  have t0 := tr_c0 hT3
  have t1 := tr_c1 hT3
  have t2 := tr_c2 hT3
  have c7 := hI3.c 7
  have c13 := hI3.c 13
  go_quiet ((go_at_call 43; exact Calls.quiet_of (flag_q _ _)))
  clear q1 q2
  go_wp2_with (first
    | ((with_reducible refine gate_dst (N := 22) rfl ?_); refine wpList_load_row rfl 34 _ rfl g rfl _ (s.cells) (0, 0) _ ((hI3.drewN _).blk) Try.underlying34 rfl infoR ?_)
    | ((with_reducible refine gate_dst (N := 23) rfl ?_); refine wpList_load_row rfl 27 _ rfl k rfl _ (trapC c v b) (0, 0) _ ((hT3.drewN _).blk) Try.underlying27 rfl infoT ?_)
    | (go_at_call 13; refine (DL.out _).mono ?_; rintro e w4 ⟨rfl, hk4⟩; have hI4 := (hI3.drewN _).kp hk4 (fun h => h); have d13 := hI4.c 13))
  have hT4 := (hT3.drewN nq).kp hk4 (fun h => h)
  have hH4 := (hH3.drewN nq).kp hk4 (fun h => h)
  have K4 := (K3.drewN nq).trans hk4
  clear hI3 hT3 hH3 K3 hk4 t0 t1 t2 c7 c13 DL
  have t0 := tr_c0 hT4
  have t1 := tr_c1 hT4
  have t2 := tr_c2 hT4
  have f16 := hI4.f 16
  have f17 := hI4.f 17
  have f18 := hI4.f 18
  have c16 := hI4.c 16
  have c17 := hI4.c 17
  have c18 := hI4.c 18
  have p1 : IntKind.u64.wrap ((pc : Int) - (pc : Int).tmod 4) = ((minus pc 3 : Nat) : Int) := by rw [IntKind.wrap_u64, minus3 HP.out, Int.tmod_eq_emod_of_nonneg (by omega)]; have := HP.out.lt; omega
  go_region_held3 (fun W => W.cell? ⟨k, 0, none⟩ = some (.int .i64 (c : Int)) ∧ W.cell? ⟨k, 1, none⟩ = some (.int .u64 (v : Int)) ∧ W.cell? ⟨k, 2, none⟩ = some (.bool b)) (first | exact ⟨t0, t1, t2⟩ | simp [World.cell?_setCell_far, hgk, hgk.symm, t0, t1, t2]) (fail)
  have hI5 := (((hI4.set 17 (codeW c b)).set 16 (minus pc 3)).set 18 v).drew
  have k45 := ((((Kp.refl w4 (fun i => i = g)).setCell (p := ⟨g, 17, none⟩) (.inl rfl) (.int .u64 (codeW c b : Int))).setCell (p := ⟨g, 16, none⟩) (.inl rfl) (.int .u64 (minus pc 3 : Int))).setCell (p := ⟨g, 18, none⟩) (.inl rfl) (.int .u64 (v : Int))).drew
  generalize (((w4.setCell ⟨g, 17, none⟩ (.int .u64 (codeW c b : Int))).setCell ⟨g, 16, none⟩ (.int .u64 (minus pc 3 : Int))).setCell ⟨g, 18, none⟩ (.int .u64 (v : Int))).drew = w5 at hI5 k45 ⊢
  have hT5 := hT4.kp k45 hgk.symm
  have hH5 := hH4.kp k45 hgh.symm
  have K5 : KpN w w5 := K4.then k45 fun i hi (e : i = g) => by omega
  have ok5 := ent0_ok HS.out hc hv HP.out b 17 16 18
  have ok6 := rsetW_ok ok5 5 (bitW (s.r 1) 1)
  have ok7 := rsetW_ok ok6 1 false
  have ok8 := rsetW_ok ok7 8 (s.m == 1)
  have m7 : (rsetW (rsetW (((s.set 17 (codeW c b)).set 16 (minus pc 3)).set 18 v) 5 (bitW (s.r 1) 1)) 1 false).m = s.m := rfl
  have IS : ∀ W, Calls Try.prog 26 #[.agg (((s.set 17 (codeW c b)).set 16 (minus pc 3)).set 18 v).cells, .int .i64 1] W fun e w' => e = .returned (.bool (bitW (s.r 1) 1)) ∧ KpN W w' := fun W => is_r _ 1 W ok5
  have E5 : rentS s c v b pc = (rsetW (rsetW (rsetW (((s.set 17 (codeW c b)).set 16 (minus pc 3)).set 18 v) 5 (bitW (s.r 1) 1)) 1 false) 8 (s.m == 1)).mode 1 := rfl
  generalize hs5 : ((s.set 17 (codeW c b)).set 16 (minus pc 3)).set 18 v = s5 at *
  generalize hs6 : rsetW s5 5 (bitW (s.r 1) 1) = s6 at *
  generalize hs7 : rsetW s6 1 false = s7 at *
  generalize hs8 : rsetW s7 8 (s.m == 1) = s8 at *
  have H6 := Aside0.mk hs6
  have H7 := Aside0.mk hs7
  have H8 := Aside0.mk hs8
  have M7 := Aside0.mk m7
  have HE := Aside0.mk E5
  clear t0 t1 t2 f16 f17 f18 c16 c17 c18 hI4 hT4 hH4 K4 k45 p1 hs5 hs6 hs7 hs8 m7 E5 d13
  go_wp2_with (fail)
  have cQ1 := rg_calls (w := w5) fun W _ => IS W
  have cQ2 := rg_calls (w := w5) fun W _ => set_r s5 5 (bitW (s.r 1) 1) W ok5
  have kb : ∀ W, Rg w5 W → W.heap[g]? = some (.cells s5.cells 34 (0, 0)) := fun W h => (hI5.kp h.kp (fun h => h)).blk
  rw [H6.out] at cQ2
  refine wp_region_rg 4 (by kernel_rfl) (by kernel_rfl) ?_
  simp only [List.take_succ_cons, List.take_zero, List.drop_succ_cons, List.drop_zero]
  refine wpQuiet_ld (C := Rg w5) (by rfl) rfl g rfl 34 s5.cells _ kb rfl rfl rfl ?_
  refine wpQuiet_ld (C := Rg w5) (by rfl) rfl g rfl 34 s5.cells _ kb rfl rfl rfl ?_
  clear kb
  repeat (quiet_step (first | with_reducible exact cQ1 _ _ | with_reducible exact cQ2 _ _))
  refine wpQuiet_nil ?_
  intro w6 hw6
  have hI6 := hI5.kp hw6.kp (fun h => h)
  have hT6 := hT5.kp hw6.kp (fun h => h)
  have hH6 := hH5.kp hw6.kp (fun h => h)
  have K6 := K5.trans hw6.kp
  clear hI5 hT5 hH5 K5 hw6 cQ1 cQ2 IS
  have SR : Aside0 (∀ W, Calls Try.prog 44 #[.agg s6.cells, .int .i64 1, .bool false] W fun e w' => e = .returned (.agg s7.cells) ∧ KpN W w') := ⟨fun W => by rw [← H7.out]; exact set_r s6 1 false W ok6⟩
  have SQ : Aside0 (∀ W, Calls Try.prog 44 #[.agg s7.cells, .int .i64 8, .bool (s.m == 1)] W fun e w' => e = .returned (.agg s8.cells) ∧ KpN W w') := ⟨fun W => by rw [← H8.out]; exact set_r s7 8 (s.m == 1) W ok7⟩
  go_wp2_with (first
    | (((with_reducible refine gate_store (t := 34) (p := 3) rfl ?_); refine st_ev rfl rfl rfl g (s6.cells) _ _ rfl rfl (hI6.blk) infoR rfl (VS.one _) ?_; intro w7 hs_w7 ks_w7); have hI7 : St RT w7 g s6 := ⟨hs_w7⟩)
    | ((with_reducible refine gate_dst (N := 45) rfl ?_); refine wpList_load_row rfl 34 _ rfl g rfl _ (s6.cells) (0, 0) _ (hI7.blk) Try.underlying34 rfl infoR ?_)
    | (go_at_call 44; (with_reducible refine (SR.out _).mono ?_); rintro e w8 ⟨rfl, k8⟩; have hI8 := hI7.kp k8 (fun h => h))
    | (((with_reducible refine gate_store (t := 34) (p := 3) rfl ?_); refine st_ev rfl rfl rfl g (s7.cells) _ _ rfl rfl (hI8.blk) infoR rfl (VS.one _) ?_; intro w9 hs_w9 ks_w9); have hI9 : St RT w9 g s7 := ⟨hs_w9⟩; have d9 := hI9.c0; rw [M7.out] at d9)
    | ((with_reducible refine gate_dst (N := 47) rfl ?_); refine wpList_load_row rfl 34 _ rfl g rfl _ (s7.cells) (0, 0) _ (hI9.blk) Try.underlying34 rfl infoR ?_))
  refine (SQ.out _).mono ?_
  rintro e wa ⟨rfl, ka⟩
  have hIa := hI9.kp ka (fun h => h)
  have ks6 := K6.then ks_w7 fun i hi (e : i = g) => by omega
  have ks9 := (ks6.trans k8).then ks_w9 fun i hi (e : i = g) => by omega
  have kga : Kp w6 wa (fun i => i = g) := ((ks_w7.trans (k8.mono fun _ _ h => h.elim)).trans ks_w9).trans (ka.mono fun _ _ h => h.elim)
  have hTa := hT6.kp kga hgk.symm
  have hHa := hH6.kp kga hgh.symm
  have Ka := ks9.trans ka
  clear hI6 hT6 hH6 K6 hI7 hI8 hI9 d9 hs_w7 ks_w7 k8 hs_w9 ks_w9 ka ks6 ks9 kga SR SQ
  have t0 := tr_c0 hTa
  have t2 := tr_c2 hTa
  have hx : U (s.r 13) := HS.out 13
  have a1 : IntKind.u64.wrap ((s.r 13 : Int) - (s.r 13 : Int) % 4) = ((minus (s.r 13) 3 : Nat) : Int) := by rw [IntKind.wrap_u64, minus3 hx]; have := hx.lt; omega
  have a4 : IntKind.u64.wrap (((minus (s.r 13) 3 : Nat) : Int) + 4 * (c : Int)) = (((minus (s.r 13) 3 + 4 * c) % 18446744073709551616 : Nat) : Int) := by rw [IntKind.wrap_u64]; omega
  by_cases hodd : s.r 13 % 2 = 1
  · have o1 : ((s.r 13 : Int) % 2 == 1) = true := beq_iff_eq.2 (by omega)
    cases b
    · have HQ : Aside0 (targetW (s.r 13) c false = minus (s.r 13) 3) := ⟨if_neg (fun h => absurd h.2 (by decide))⟩
      clear hodd hx
      go_wp2_with (first
        | (((with_reducible refine gate_store (t := 34) (p := 3) rfl ?_); refine st_ev rfl rfl rfl g (s8.cells) _ _ rfl rfl (hIa.blk) infoR rfl (VS.one _) ?_; intro wb hs_wb ks_wb); have hIb : St RT wb g s8 := ⟨hs_wb⟩; have db := hIb.c0; have fb := hIb.f 0; have hTb := hTa.kp ks_wb hgk.symm; have hHb := hHa.kp ks_wb hgh.symm; have t0b := tr_c0 hTb; have t2b := tr_c2 hTb)
        | ((with_reducible refine gate_dst (N := 99) rfl ?_); refine wpList_load_row rfl 34 _ rfl g rfl _ ((s8.mode 1).cells) (0, 0) _ ((hIb.set0 1).blk) Try.underlying34 rfl infoR ?_)
        | ((with_reducible refine gate_store (t := 34) (p := 6) rfl ?_); refine st_ev rfl rfl rfl h ((s8.mode 1).cells) _ _ rfl rfl ((hHb.far hgh.symm _).blk) infoR rfl (VS.one _) ?_; intro wc hs_wc ks_wc))
      refine bodyPost_ret (results_ct rfl _ _ h (s8.mode 1).cells _ _ rfl rfl hs_wc Try.underlying34 rfl infoR) rfl ?_
      rw [HE.out, HQ.out]
      exact ⟨rfl, ((Ka.then ks_wb fun i hi (e : i = g) => by omega).setCell (p := ⟨g, 0, none⟩) (.inr hgw) _).then ks_wc fun i hi (e : i = h) => by omega⟩
    · have HQ : Aside0 (targetW (s.r 13) c true = (minus (s.r 13) 3 + 4 * c) % 18446744073709551616) := ⟨if_pos ⟨hodd, rfl⟩⟩
      clear hodd hx
      go_wp2_with (first
        | (((with_reducible refine gate_store (t := 34) (p := 3) rfl ?_); refine st_ev rfl rfl rfl g (s8.cells) _ _ rfl rfl (hIa.blk) infoR rfl (VS.one _) ?_; intro wb hs_wb ks_wb); have hIb : St RT wb g s8 := ⟨hs_wb⟩; have db := hIb.c0; have fb := hIb.f 0; have hTb := hTa.kp ks_wb hgk.symm; have hHb := hHa.kp ks_wb hgh.symm; have t0b := tr_c0 hTb; have t2b := tr_c2 hTb)
        | ((with_reducible refine gate_dst (N := 99) rfl ?_); refine wpList_load_row rfl 34 _ rfl g rfl _ ((s8.mode 1).cells) (0, 0) _ ((hIb.set0 1).blk) Try.underlying34 rfl infoR ?_)
        | ((with_reducible refine gate_store (t := 34) (p := 6) rfl ?_); refine st_ev rfl rfl rfl h ((s8.mode 1).cells) _ _ rfl rfl ((hHb.far hgh.symm _).blk) infoR rfl (VS.one _) ?_; intro wc hs_wc ks_wc))
      refine bodyPost_ret (results_ct rfl _ _ h (s8.mode 1).cells _ _ rfl rfl hs_wc Try.underlying34 rfl infoR) rfl ?_
      rw [HE.out, HQ.out]
      exact ⟨rfl, ((Ka.then ks_wb fun i hi (e : i = g) => by omega).setCell (p := ⟨g, 0, none⟩) (.inr hgw) _).then ks_wc fun i hi (e : i = h) => by omega⟩
  · have o1 : ((s.r 13 : Int) % 2 == 1) = false := beq_eq_false_iff_ne.2 (by omega)
    have HQ : Aside0 (targetW (s.r 13) c b = minus (s.r 13) 3) := ⟨if_neg (fun h => hodd h.1)⟩
    clear hodd hx
    go_wp2_with (first
      | (((with_reducible refine gate_store (t := 34) (p := 3) rfl ?_); refine st_ev rfl rfl rfl g (s8.cells) _ _ rfl rfl (hIa.blk) infoR rfl (VS.one _) ?_; intro wb hs_wb ks_wb); have hIb : St RT wb g s8 := ⟨hs_wb⟩; have db := hIb.c0; have fb := hIb.f 0; have hTb := hTa.kp ks_wb hgk.symm; have hHb := hHa.kp ks_wb hgh.symm; have t0b := tr_c0 hTb; have t2b := tr_c2 hTb)
      | ((with_reducible refine gate_dst (N := 99) rfl ?_); refine wpList_load_row rfl 34 _ rfl g rfl _ ((s8.mode 1).cells) (0, 0) _ ((hIb.set0 1).blk) Try.underlying34 rfl infoR ?_)
      | ((with_reducible refine gate_store (t := 34) (p := 6) rfl ?_); refine st_ev rfl rfl rfl h ((s8.mode 1).cells) _ _ rfl rfl ((hHb.far hgh.symm _).blk) infoR rfl (VS.one _) ?_; intro wc hs_wc ks_wc))
    refine bodyPost_ret (results_ct rfl _ _ h (s8.mode 1).cells _ _ rfl rfl hs_wc Try.underlying34 rfl infoR) rfl ?_
    rw [HE.out, HQ.out]
    exact ⟨rfl, ((Ka.then ks_wb fun i hi (e : i = g) => by omega).setCell (p := ⟨g, 0, none⟩) (.inr hgw) _).then ks_wc fun i hi (e : i = h) => by omega⟩
set_option maxHeartbeats 8000000 in
set_option maxRecDepth 100000 in
theorem renter_m (n : Nat) (hn : n ≤ 3) (s : VS) (c v : Nat) (b : Bool) (pc : Nat) (w : World) (hs : s.ok) (hc : c < 64) (hv : U v) (hp : U pc) (hm : s.m = (n : Int)) (hd : rdelegW s c b = false) :
    Calls Try.prog 16 #[.agg s.cells, .agg (trapC c v b), .int .u64 (pc : Int)] w fun e w' => e = .returned (.tuple #[.agg (rentM s c v b pc n).cells, .int .u64 ((targetW (s.r 7) c b : Nat) : Int)]) ∧ KpN w w' := by
  have DL : Aside0 (∀ W, Calls Try.prog 13 #[.agg s.cells, .agg (trapC c v b)] W fun e w' => e = .returned (.bool false) ∧ KpN W w') := ⟨fun W => by
    have := deleg_r s c v b W hs; rw [hd] at this; exact this⟩
  have q1 : IntKind.u64.wrap (((flagW b : Nat) : Int) * 9223372036854775808) = ((flagW b : Nat) : Int) * 9223372036854775808 := by
    rw [IntKind.wrap_u64]; cases b <;> decide
  have q2 : IntKind.u64.wrap ((c : Int) + ((flagW b : Nat) : Int) * 9223372036854775808) = ((codeW c b : Nat) : Int) := by
    rw [IntKind.wrap_u64, codeW_sum hc]; cases b <;> simp [flagW] <;> omega
  have e0 : IntKind.u64.wrap (c : Int) = (c : Int) := u64_nat c (by omega)
  have HP := Aside0.mk hp
  have HS := Aside0.mk hs
  clear hd
  go_enter Try.func16, Try.ntmps16
  go_wp2_with (first
    | (((with_reducible refine gate_dst (N := 3) rfl ?_); refine bx_ev rfl rfl (N := 3) rfl (s.cells) rfl ?_; intro g hg_g w1 hb_g hk_g; have Hg_g := Aside0.mk hg_g; clear hg_g); have hI1 : St RT w1 g s := St.mk hb_g)
    | (((with_reducible refine gate_dst (N := 4) rfl ?_); refine bx_ev rfl rfl (N := 4) rfl (trapC c v b) rfl ?_; intro k hg_k w2 hb_k hk_k; have Hg_k := Aside0.mk hg_k; clear hg_k); have hI2 := hI1.kp hk_k (fun h => h); have hT2 := Bk.mk hb_k)
    | (((with_reducible refine gate_dst (N := 6) rfl ?_); refine al_ev rfl rfl (N := 6) rfl _ (zeroR _) ?_; intro h hg_h w3 hb_h hk_h; have Hg_h := Aside0.mk hg_h; clear hg_h); have hI3 := hI2.kp hk_h (fun h => h); have hT3 := hT2.kp hk_h (fun h => h); have hH3 : St RT w3 h (VS.mk 0 fun _ => 0) := St.mk hb_h))
  have hgk : g ≠ k := by have := Hg_k.out; have := hI1.lt; omega
  have hgh : g ≠ h := by have := Hg_h.out; have := hI2.lt; omega
  have hkh : k ≠ h := by have := Hg_h.out; have := blk_lt hT2.blk; omega
  have hgw : w.heap.size ≤ g := by have := Hg_g.out; omega
  have hkw : w.heap.size ≤ k := by have := Hg_k.out; have := hk_g.size; omega
  have hhw : w.heap.size ≤ h := by have := Hg_h.out; have := hk_g.size; have := hk_k.size; omega
  have K3 : KpN w w3 := (hk_g.trans hk_k).trans hk_h
  clear hI1 hI2 hT2 hb_g hb_k hb_h hk_g hk_k hk_h Hg_g Hg_k Hg_h
  have t0 := tr_c0 hT3
  have t1 := tr_c1 hT3
  have t2 := tr_c2 hT3
  have c7 := hI3.c 7
  go_quiet ((go_at_call 43; exact Calls.quiet_of (flag_q _ _)))
  clear q1 q2
  go_wp2_with (first
    | ((with_reducible refine gate_dst (N := 22) rfl ?_); refine wpList_load_row rfl 34 _ rfl g rfl _ (s.cells) (0, 0) _ ((hI3.drewN _).blk) Try.underlying34 rfl infoR ?_)
    | ((with_reducible refine gate_dst (N := 23) rfl ?_); refine wpList_load_row rfl 27 _ rfl k rfl _ (trapC c v b) (0, 0) _ ((hT3.drewN _).blk) Try.underlying27 rfl infoT ?_)
    | (go_at_call 13; refine (DL.out _).mono ?_; rintro e w4 ⟨rfl, hk4⟩; have hI4 := (hI3.drewN _).kp hk4 (fun h => h)))
  have hT4 := (hT3.drewN nq).kp hk4 (fun h => h)
  have hH4 := (hH3.drewN nq).kp hk4 (fun h => h)
  have K4 := (K3.drewN nq).trans hk4
  clear hI3 hT3 hH3 K3 hk4 t0 t1 t2 c7 DL
  have t0 := tr_c0 hT4
  have t1 := tr_c1 hT4
  have t2 := tr_c2 hT4
  have f10 := hI4.f 10
  have f11 := hI4.f 11
  have f12 := hI4.f 12
  have c10 := hI4.c 10
  have c11 := hI4.c 11
  have c12 := hI4.c 12
  have p1 : IntKind.u64.wrap ((pc : Int) - (pc : Int).tmod 4) = ((minus pc 3 : Nat) : Int) := by rw [IntKind.wrap_u64, minus3 HP.out, Int.tmod_eq_emod_of_nonneg (by omega)]; have := HP.out.lt; omega
  go_region_held3 (fun W => W.cell? ⟨k, 0, none⟩ = some (.int .i64 (c : Int)) ∧ W.cell? ⟨k, 1, none⟩ = some (.int .u64 (v : Int)) ∧ W.cell? ⟨k, 2, none⟩ = some (.bool b)) (first | exact ⟨t0, t1, t2⟩ | simp [World.cell?_setCell_far, hgk, hgk.symm, t0, t1, t2]) (fail)
  have hI5 := (((hI4.set 11 (codeW c b)).set 10 (minus pc 3)).set 12 v).drew
  have k45 := ((((Kp.refl w4 (fun i => i = g)).setCell (p := ⟨g, 11, none⟩) (.inl rfl) (.int .u64 (codeW c b : Int))).setCell (p := ⟨g, 10, none⟩) (.inl rfl) (.int .u64 (minus pc 3 : Int))).setCell (p := ⟨g, 12, none⟩) (.inl rfl) (.int .u64 (v : Int))).drew
  generalize (((w4.setCell ⟨g, 11, none⟩ (.int .u64 (codeW c b : Int))).setCell ⟨g, 10, none⟩ (.int .u64 (minus pc 3 : Int))).setCell ⟨g, 12, none⟩ (.int .u64 (v : Int))).drew = w5 at hI5 k45 ⊢
  have hT5 := hT4.kp k45 hgk.symm
  have hH5 := hH4.kp k45 hgh.symm
  have K5 : KpN w w5 := K4.then k45 fun i hi (e : i = g) => by omega
  have ok5 := ent0_ok HS.out hc hv HP.out b 11 10 12
  have ok6 := rsetW_ok ok5 7 (bitW (s.r 1) 3)
  have ok7 := rsetW_ok ok6 3 false
  have m7 : (rsetW (rsetW (((s.set 11 (codeW c b)).set 10 (minus pc 3)).set 12 v) 7 (bitW (s.r 1) 3)) 3 false).m = (n : Int) := hm
  have IS : ∀ W, Calls Try.prog 26 #[.agg (((s.set 11 (codeW c b)).set 10 (minus pc 3)).set 12 v).cells, .int .i64 3] W fun e w' => e = .returned (.bool (bitW (s.r 1) 3)) ∧ KpN W w' := fun W => is_r _ 3 W ok5
  have E5 : rentM s c v b pc n = ((rsetW (rsetW (((s.set 11 (codeW c b)).set 10 (minus pc 3)).set 12 v) 7 (bitW (s.r 1) 3)) 3 false).set 1 (putW ((rsetW (rsetW (((s.set 11 (codeW c b)).set 10 (minus pc 3)).set 12 v) 7 (bitW (s.r 1) 3)) 3 false).r 1) 11 2 n)).mode 3 := rfl
  generalize hs5 : ((s.set 11 (codeW c b)).set 10 (minus pc 3)).set 12 v = s5 at *
  generalize hs6 : rsetW s5 7 (bitW (s.r 1) 3) = s6 at *
  generalize hs7 : rsetW s6 3 false = s7 at *
  have H6 := Aside0.mk hs6
  have H7 := Aside0.mk hs7
  have M7 := Aside0.mk m7
  have HE := Aside0.mk E5
  have U7 := Aside0.mk (ok7 1)
  clear t0 t1 t2 f10 f11 f12 c10 c11 c12 hI4 hT4 hH4 K4 k45 p1 hs5 hs6 hs7 m7 E5 hm
  go_wp2_with (fail)
  have cQ1 := rg_calls (w := w5) fun W _ => IS W
  have cQ2 := rg_calls (w := w5) fun W _ => set_r s5 7 (bitW (s.r 1) 3) W ok5
  have kb : ∀ W, Rg w5 W → W.heap[g]? = some (.cells s5.cells 34 (0, 0)) := fun W h => (hI5.kp h.kp (fun h => h)).blk
  rw [H6.out] at cQ2
  refine wp_region_rg 4 (by kernel_rfl) (by kernel_rfl) ?_
  simp only [List.take_succ_cons, List.take_zero, List.drop_succ_cons, List.drop_zero]
  refine wpQuiet_ld (C := Rg w5) (by rfl) rfl g rfl 34 s5.cells _ kb rfl rfl rfl ?_
  refine wpQuiet_ld (C := Rg w5) (by rfl) rfl g rfl 34 s5.cells _ kb rfl rfl rfl ?_
  clear kb
  repeat (quiet_step (first | with_reducible exact cQ1 _ _ | with_reducible exact cQ2 _ _))
  refine wpQuiet_nil ?_
  intro w6 hw6
  have hI6 := hI5.kp hw6.kp (fun h => h)
  have hT6 := hT5.kp hw6.kp (fun h => h)
  have hH6 := hH5.kp hw6.kp (fun h => h)
  have K6 := K5.trans hw6.kp
  clear hI5 hT5 hH5 K5 hw6 cQ1 cQ2 IS
  have SR : Aside0 (∀ W, Calls Try.prog 44 #[.agg s6.cells, .int .i64 3, .bool false] W fun e w' => e = .returned (.agg s7.cells) ∧ KpN W w') := ⟨fun W => by rw [← H7.out]; exact set_r s6 3 false W ok6⟩
  have hnU : U n := ⟨by omega⟩
  have en : IntKind.u64.wrap (n : Int) = (n : Int) := u64_nat n (by omega)
  go_wp2_with (first
    | (((with_reducible refine gate_store (t := 34) (p := 3) rfl ?_); refine st_ev rfl rfl rfl g (s6.cells) _ _ rfl rfl (hI6.blk) infoR rfl (VS.one _) ?_; intro w7 hs_w7 ks_w7); have hI7 : St RT w7 g s6 := ⟨hs_w7⟩)
    | ((with_reducible refine gate_dst (N := 70) rfl ?_); refine wpList_load_row rfl 34 _ rfl g rfl _ (s6.cells) (0, 0) _ (hI7.blk) Try.underlying34 rfl infoR ?_)
    | (go_at_call 44; (with_reducible refine (SR.out _).mono ?_); rintro e w8 ⟨rfl, k8⟩; have hI8 := hI7.kp k8 (fun h => h))
    | (((with_reducible refine gate_store (t := 34) (p := 3) rfl ?_); refine st_ev rfl rfl rfl g (s7.cells) _ _ rfl rfl (hI8.blk) infoR rfl (VS.one _) ?_; intro w9 hs_w9 ks_w9); have hI9 : St RT w9 g s7 := ⟨hs_w9⟩; have d9 := hI9.c0; rw [M7.out] at d9; have d1 := hI9.c 1))
  refine (putr_c (s7.r 1) 11 2 n _ U7.out hnU).mono ?_
  rintro e wa ⟨rfl, ka⟩
  have hIa := hI9.kp ka (fun h => h)
  have ks6 := K6.then ks_w7 fun i hi (e : i = g) => by omega
  have ks9 := (ks6.trans k8).then ks_w9 fun i hi (e : i = g) => by omega
  have kga : Kp w6 wa (fun i => i = g) := ((ks_w7.trans (k8.mono fun _ _ h => h.elim)).trans ks_w9).trans (ka.mono fun _ _ h => h.elim)
  have hTa := hT6.kp kga hgk.symm
  have hHa := hH6.kp kga hgh.symm
  have Ka := ks9.trans ka
  clear hI6 hT6 hH6 K6 hI7 hI8 hI9 d9 d1 hs_w7 ks_w7 k8 hs_w9 ks_w9 ka ks6 ks9 kga SR
  have f1 := hIa.f 1
  have c1 := hIa.c 1
  have f0 := hIa.f 0
  have c0 := hIa.c0
  have t0 := tr_c0 hTa
  have t2 := tr_c2 hTa
  have hx : U (s.r 7) := HS.out 7
  have a1 : IntKind.u64.wrap ((s.r 7 : Int) - (s.r 7 : Int) % 4) = ((minus (s.r 7) 3 : Nat) : Int) := by rw [IntKind.wrap_u64, minus3 hx]; have := hx.lt; omega
  have a4 : IntKind.u64.wrap (((minus (s.r 7) 3 : Nat) : Int) + 4 * (c : Int)) = (((minus (s.r 7) 3 + 4 * c) % 18446744073709551616 : Nat) : Int) := by rw [IntKind.wrap_u64]; omega
  by_cases hodd : s.r 7 % 2 = 1
  · have o1 : ((s.r 7 : Int) % 2 == 1) = true := beq_iff_eq.2 (by omega)
    cases b
    · have HQ : Aside0 (targetW (s.r 7) c false = minus (s.r 7) 3) := ⟨if_neg (fun h => absurd h.2 (by decide))⟩
      clear hodd hx
      go_wp2_with (first
        | ((with_reducible refine gate_dst (N := 99) rfl ?_); refine wpList_load_row rfl 34 _ rfl g rfl _ (((s7.set 1 (putW (s7.r 1) 11 2 n)).mode 3).cells) (0, 0) _ (((hIa.set 1 _).set0 3).blk) Try.underlying34 rfl infoR ?_)
        | ((with_reducible refine gate_store (t := 34) (p := 6) rfl ?_); refine st_ev rfl rfl rfl h (((s7.set 1 (putW (s7.r 1) 11 2 n)).mode 3).cells) _ _ rfl rfl (((hHa.far hgh.symm _).far hgh.symm _).blk) infoR rfl (VS.one _) ?_; intro wc hs_wc ks_wc))
      refine bodyPost_ret (results_ct rfl _ _ h ((s7.set 1 (putW (s7.r 1) 11 2 n)).mode 3).cells _ _ rfl rfl hs_wc Try.underlying34 rfl infoR) rfl ?_
      rw [HE.out, HQ.out]
      exact ⟨rfl, ((Ka.setCell (p := ⟨g, 1, none⟩) (.inr hgw) _).setCell (p := ⟨g, 0, none⟩) (.inr hgw) _).then ks_wc fun i hi (e : i = h) => by omega⟩
    · have HQ : Aside0 (targetW (s.r 7) c true = (minus (s.r 7) 3 + 4 * c) % 18446744073709551616) := ⟨if_pos ⟨hodd, rfl⟩⟩
      clear hodd hx
      go_wp2_with (first
        | ((with_reducible refine gate_dst (N := 99) rfl ?_); refine wpList_load_row rfl 34 _ rfl g rfl _ (((s7.set 1 (putW (s7.r 1) 11 2 n)).mode 3).cells) (0, 0) _ (((hIa.set 1 _).set0 3).blk) Try.underlying34 rfl infoR ?_)
        | ((with_reducible refine gate_store (t := 34) (p := 6) rfl ?_); refine st_ev rfl rfl rfl h (((s7.set 1 (putW (s7.r 1) 11 2 n)).mode 3).cells) _ _ rfl rfl (((hHa.far hgh.symm _).far hgh.symm _).blk) infoR rfl (VS.one _) ?_; intro wc hs_wc ks_wc))
      refine bodyPost_ret (results_ct rfl _ _ h ((s7.set 1 (putW (s7.r 1) 11 2 n)).mode 3).cells _ _ rfl rfl hs_wc Try.underlying34 rfl infoR) rfl ?_
      rw [HE.out, HQ.out]
      exact ⟨rfl, ((Ka.setCell (p := ⟨g, 1, none⟩) (.inr hgw) _).setCell (p := ⟨g, 0, none⟩) (.inr hgw) _).then ks_wc fun i hi (e : i = h) => by omega⟩
  · have o1 : ((s.r 7 : Int) % 2 == 1) = false := beq_eq_false_iff_ne.2 (by omega)
    have HQ : Aside0 (targetW (s.r 7) c b = minus (s.r 7) 3) := ⟨if_neg (fun h => hodd h.1)⟩
    clear hodd hx
    go_wp2_with (first
      | ((with_reducible refine gate_dst (N := 99) rfl ?_); refine wpList_load_row rfl 34 _ rfl g rfl _ (((s7.set 1 (putW (s7.r 1) 11 2 n)).mode 3).cells) (0, 0) _ (((hIa.set 1 _).set0 3).blk) Try.underlying34 rfl infoR ?_)
      | ((with_reducible refine gate_store (t := 34) (p := 6) rfl ?_); refine st_ev rfl rfl rfl h (((s7.set 1 (putW (s7.r 1) 11 2 n)).mode 3).cells) _ _ rfl rfl (((hHa.far hgh.symm _).far hgh.symm _).blk) infoR rfl (VS.one _) ?_; intro wc hs_wc ks_wc))
    refine bodyPost_ret (results_ct rfl _ _ h ((s7.set 1 (putW (s7.r 1) 11 2 n)).mode 3).cells _ _ rfl rfl hs_wc Try.underlying34 rfl infoR) rfl ?_
    rw [HE.out, HQ.out]
    exact ⟨rfl, ((Ka.setCell (p := ⟨g, 1, none⟩) (.inr hgw) _).setCell (p := ⟨g, 0, none⟩) (.inr hgw) _).then ks_wc fun i hi (e : i = h) => by omega⟩
end Go.Proofs.Ytnknfepbekaobaa.H
/- The document's answer for traps (vireoref09), walked by hand: which interrupt is taken. -/
namespace Go.Proofs.Ytnknfepbekaobaa.H
open Go.RowKit Go.Proofs.YtnknfepbekaobaaW.PrintWords Go.Proofs.YtnknfepbekaobaaW.PrintLast Go.Proofs.Ytnknfepbekaobaa.PAl Go.Proofs.Ytnknfepbekaobaa.Pure Go.Proofs.Ytnknfepbekaobaa.Vw
set_option linter.unusedVariables false
set_option linter.unusedSimpArgs false
open Go.Sort
def litC : Array Value := #[.int .i64 11, .int .i64 3, .int .i64 7, .int .i64 9, .int .i64 1, .int .i64 5]
structure FInv (w : World) (b : Nat) (T : TypeId) (W : World) : Prop where
  B : Bk W b litC T
  K : KpN w W
set_option maxHeartbeats 8000000 in
set_option maxRecDepth 100000 in
theorem first_r (x : Nat) (w : World) (hx : U x) :
    Calls Try.prog 48 #[.int .u64 (x : Int)] w fun e w' => e = .returned (.int .i64 (firstW x)) ∧ KpN w w' := by
  go_enter Try.func48, Try.ntmps48
  go_wp2
  go_loopw [4] (fun i W => ∃ (k : Nat) (z : Int), z = k ∧ k ≤ 6 ∧ i = .int .i64 z ∧ Aside0 (firstL x (intsL.drop k) = firstW x) ∧ FInv w w.heap.size 3 W) (fun i _ => 6 - (intOf i).toNat)
  case atStart => exact ⟨0, 0, rfl, by omega, rfl, ⟨rfl⟩, ⟨⟨heap_alloc_new w _⟩, (Kp.refl _ _).alloc _⟩⟩
  case round =>
    obtain ⟨k, z, hz, hk, rfl, HF, inv⟩ := hrel
    have HX := Aside0.mk hx
    have hk6 : k = 6 ∨ k = 0 ∨ k = 1 ∨ k = 2 ∨ k = 3 ∨ k = 4 ∨ k = 5 := by omega
    clear hk hx
    rcases hk6 with rfl | rfl | rfl | rfl | rfl | rfl | rfl
    · obtain rfl : z = 6 := by omega
      clear hz
      go_wp2
      go_ret
      exact ⟨congrArg (fun z => Ending.returned (.int .i64 z)) HF.out, inv.K⟩
    · obtain rfl : z = 0 := by omega
      have HD : Aside0 (firstW x = if bitW x 11 = true then (11 : Int) else firstL x (intsL.drop 1)) := ⟨HF.out.symm⟩
      have q := bit_eq x 11
      have c0 : wr.cell? ⟨w.heap.size, 0, none⟩ = some (.int .i64 11) := inv.B.c 0
      clear hz HF
      by_cases hb : bitW x 11 = true
      · have HB := Aside0.mk hb
        rw [hb] at q
        clear hb
        go_wp2_with (go_at_call 50; refine (getr_c x 11 1 _ HX.out).mono ?_; rintro e w' ⟨rfl, hk'⟩; have c0' : w'.cell? ⟨w.heap.size, 0, none⟩ = some (.int .i64 11) := (inv.B.kp hk' (fun h => h)).c 0)
        go_ret
        exact ⟨congrArg (fun z => Ending.returned (.int .i64 z)) (HD.out.trans (if_pos HB.out)).symm, inv.K.trans hk'⟩
      · have HB := Aside0.mk (Bool.not_eq_true _ ▸ hb)
        rw [HB.out] at q
        clear hb
        go_wp2_with (go_at_call 50; refine (getr_c x 11 1 _ HX.out).mono ?_; rintro e w' ⟨rfl, hk'⟩)
        have inv' : FInv w w.heap.size 3 w' := ⟨inv.B.kp hk' (fun h => h), inv.K.trans hk'⟩
        go_roundw
        case rel => exact ⟨1, 1, rfl, by decide, by go_num, ⟨(HD.out.trans (if_neg (by rw [HB.out]; exact Bool.false_ne_true))).symm⟩, inv'⟩
        case measure => simp [intOf]
    · obtain rfl : z = 1 := by omega
      have HD : Aside0 (firstW x = if bitW x 3 = true then (3 : Int) else firstL x (intsL.drop 2)) := ⟨HF.out.symm⟩
      have q := bit_eq x 3
      have c0 : wr.cell? ⟨w.heap.size, 1, none⟩ = some (.int .i64 3) := inv.B.c 1
      clear hz HF
      by_cases hb : bitW x 3 = true
      · have HB := Aside0.mk hb
        rw [hb] at q
        clear hb
        go_wp2_with (go_at_call 50; refine (getr_c x 3 1 _ HX.out).mono ?_; rintro e w' ⟨rfl, hk'⟩; have c0' : w'.cell? ⟨w.heap.size, 1, none⟩ = some (.int .i64 3) := (inv.B.kp hk' (fun h => h)).c 1)
        go_ret
        exact ⟨congrArg (fun z => Ending.returned (.int .i64 z)) (HD.out.trans (if_pos HB.out)).symm, inv.K.trans hk'⟩
      · have HB := Aside0.mk (Bool.not_eq_true _ ▸ hb)
        rw [HB.out] at q
        clear hb
        go_wp2_with (go_at_call 50; refine (getr_c x 3 1 _ HX.out).mono ?_; rintro e w' ⟨rfl, hk'⟩)
        have inv' : FInv w w.heap.size 3 w' := ⟨inv.B.kp hk' (fun h => h), inv.K.trans hk'⟩
        go_roundw
        case rel => exact ⟨2, 2, rfl, by decide, by go_num, ⟨(HD.out.trans (if_neg (by rw [HB.out]; exact Bool.false_ne_true))).symm⟩, inv'⟩
        case measure => simp [intOf]
    · obtain rfl : z = 2 := by omega
      have HD : Aside0 (firstW x = if bitW x 7 = true then (7 : Int) else firstL x (intsL.drop 3)) := ⟨HF.out.symm⟩
      have q := bit_eq x 7
      have c0 : wr.cell? ⟨w.heap.size, 2, none⟩ = some (.int .i64 7) := inv.B.c 2
      clear hz HF
      by_cases hb : bitW x 7 = true
      · have HB := Aside0.mk hb
        rw [hb] at q
        clear hb
        go_wp2_with (go_at_call 50; refine (getr_c x 7 1 _ HX.out).mono ?_; rintro e w' ⟨rfl, hk'⟩; have c0' : w'.cell? ⟨w.heap.size, 2, none⟩ = some (.int .i64 7) := (inv.B.kp hk' (fun h => h)).c 2)
        go_ret
        exact ⟨congrArg (fun z => Ending.returned (.int .i64 z)) (HD.out.trans (if_pos HB.out)).symm, inv.K.trans hk'⟩
      · have HB := Aside0.mk (Bool.not_eq_true _ ▸ hb)
        rw [HB.out] at q
        clear hb
        go_wp2_with (go_at_call 50; refine (getr_c x 7 1 _ HX.out).mono ?_; rintro e w' ⟨rfl, hk'⟩)
        have inv' : FInv w w.heap.size 3 w' := ⟨inv.B.kp hk' (fun h => h), inv.K.trans hk'⟩
        go_roundw
        case rel => exact ⟨3, 3, rfl, by decide, by go_num, ⟨(HD.out.trans (if_neg (by rw [HB.out]; exact Bool.false_ne_true))).symm⟩, inv'⟩
        case measure => simp [intOf]
    · obtain rfl : z = 3 := by omega
      have HD : Aside0 (firstW x = if bitW x 9 = true then (9 : Int) else firstL x (intsL.drop 4)) := ⟨HF.out.symm⟩
      have q := bit_eq x 9
      have c0 : wr.cell? ⟨w.heap.size, 3, none⟩ = some (.int .i64 9) := inv.B.c 3
      clear hz HF
      by_cases hb : bitW x 9 = true
      · have HB := Aside0.mk hb
        rw [hb] at q
        clear hb
        go_wp2_with (go_at_call 50; refine (getr_c x 9 1 _ HX.out).mono ?_; rintro e w' ⟨rfl, hk'⟩; have c0' : w'.cell? ⟨w.heap.size, 3, none⟩ = some (.int .i64 9) := (inv.B.kp hk' (fun h => h)).c 3)
        go_ret
        exact ⟨congrArg (fun z => Ending.returned (.int .i64 z)) (HD.out.trans (if_pos HB.out)).symm, inv.K.trans hk'⟩
      · have HB := Aside0.mk (Bool.not_eq_true _ ▸ hb)
        rw [HB.out] at q
        clear hb
        go_wp2_with (go_at_call 50; refine (getr_c x 9 1 _ HX.out).mono ?_; rintro e w' ⟨rfl, hk'⟩)
        have inv' : FInv w w.heap.size 3 w' := ⟨inv.B.kp hk' (fun h => h), inv.K.trans hk'⟩
        go_roundw
        case rel => exact ⟨4, 4, rfl, by decide, by go_num, ⟨(HD.out.trans (if_neg (by rw [HB.out]; exact Bool.false_ne_true))).symm⟩, inv'⟩
        case measure => simp [intOf]
    · obtain rfl : z = 4 := by omega
      have HD : Aside0 (firstW x = if bitW x 1 = true then (1 : Int) else firstL x (intsL.drop 5)) := ⟨HF.out.symm⟩
      have q := bit_eq x 1
      have c0 : wr.cell? ⟨w.heap.size, 4, none⟩ = some (.int .i64 1) := inv.B.c 4
      clear hz HF
      by_cases hb : bitW x 1 = true
      · have HB := Aside0.mk hb
        rw [hb] at q
        clear hb
        go_wp2_with (go_at_call 50; refine (getr_c x 1 1 _ HX.out).mono ?_; rintro e w' ⟨rfl, hk'⟩; have c0' : w'.cell? ⟨w.heap.size, 4, none⟩ = some (.int .i64 1) := (inv.B.kp hk' (fun h => h)).c 4)
        go_ret
        exact ⟨congrArg (fun z => Ending.returned (.int .i64 z)) (HD.out.trans (if_pos HB.out)).symm, inv.K.trans hk'⟩
      · have HB := Aside0.mk (Bool.not_eq_true _ ▸ hb)
        rw [HB.out] at q
        clear hb
        go_wp2_with (go_at_call 50; refine (getr_c x 1 1 _ HX.out).mono ?_; rintro e w' ⟨rfl, hk'⟩)
        have inv' : FInv w w.heap.size 3 w' := ⟨inv.B.kp hk' (fun h => h), inv.K.trans hk'⟩
        go_roundw
        case rel => exact ⟨5, 5, rfl, by decide, by go_num, ⟨(HD.out.trans (if_neg (by rw [HB.out]; exact Bool.false_ne_true))).symm⟩, inv'⟩
        case measure => simp [intOf]
    · obtain rfl : z = 5 := by omega
      have HD : Aside0 (firstW x = if bitW x 5 = true then (5 : Int) else firstL x (intsL.drop 6)) := ⟨HF.out.symm⟩
      have q := bit_eq x 5
      have c0 : wr.cell? ⟨w.heap.size, 5, none⟩ = some (.int .i64 5) := inv.B.c 5
      clear hz HF
      by_cases hb : bitW x 5 = true
      · have HB := Aside0.mk hb
        rw [hb] at q
        clear hb
        go_wp2_with (go_at_call 50; refine (getr_c x 5 1 _ HX.out).mono ?_; rintro e w' ⟨rfl, hk'⟩; have c0' : w'.cell? ⟨w.heap.size, 5, none⟩ = some (.int .i64 5) := (inv.B.kp hk' (fun h => h)).c 5)
        go_ret
        exact ⟨congrArg (fun z => Ending.returned (.int .i64 z)) (HD.out.trans (if_pos HB.out)).symm, inv.K.trans hk'⟩
      · have HB := Aside0.mk (Bool.not_eq_true _ ▸ hb)
        rw [HB.out] at q
        clear hb
        go_wp2_with (go_at_call 50; refine (getr_c x 5 1 _ HX.out).mono ?_; rintro e w' ⟨rfl, hk'⟩)
        have inv' : FInv w w.heap.size 3 w' := ⟨inv.B.kp hk' (fun h => h), inv.K.trans hk'⟩
        go_roundw
        case rel => exact ⟨6, 6, rfl, by decide, by go_num, ⟨(HD.out.trans (if_neg (by rw [HB.out]; exact Bool.false_ne_true))).symm⟩, inv'⟩
        case measure => simp [intOf]
def rpendW (s : VS) : Nat := s.r 2 ||| s.r 3
theorem rpend_ok {s : VS} (h : s.ok) : U (rpendW s) := (h 2).or (h 3)
set_option maxHeartbeats 8000000 in
set_option maxRecDepth 100000 in
theorem pend_r (s : VS) (w : World) (hs : s.ok) :
    Calls Try.prog 47 #[.agg s.cells] w fun e w' => e = .returned (.int .u64 ((rpendW s : Nat) : Int)) ∧ KpN w w' := by
  go_enter Try.func47, Try.ntmps47
  go_wp2_with (first
    | (((with_reducible refine gate_dst (N := 1) rfl ?_); refine bx_ev rfl rfl (N := 1) rfl (s.cells) rfl ?_; intro g hg_g w1 hb_g hk_g; have Hg_g := Aside0.mk hg_g; clear hg_g); have hI1 : St RT w1 g s := St.mk hb_g; have c2 := hI1.c 2; have c3 := hI1.c 3)
    | (go_at_call 61; refine (or_r _ _ _ (hs 2) (hs 3)).mono ?_; rintro e w2 ⟨rfl, k2⟩))
  go_ret
  exact ⟨rfl, hk_g.trans k2⟩
def rsetqW (s : VS) : Nat := rpendW s &&& s.r 6
theorem rsetqW_ok {s : VS} (h : s.ok) : U (rsetqW s) := (rpend_ok h).and
def nextI (m : Int) (b3 b1 : Bool) (own oth : Int) : Int :=
  if (if m < 3 ∨ b3 = true then own else -1) < 0 ∧ (m < 1 ∨ (m = 1 ∧ b1 = true)) then oth else (if m < 3 ∨ b3 = true then own else -1)
theorem nextN_eq (s : VS) : nextN s = nextI s.m (bitW (s.r 1) 3) (bitW (s.r 1) 1) (firstW (minus (setqW s) (s.r 3))) (firstW (setqW s &&& s.r 3)) := rfl
def rnextN (s : VS) : Int := nextI s.m (bitW (s.r 1) 3) (bitW (s.r 1) 1) (firstW (minus (rsetqW s) (s.r 5))) (firstW (rsetqW s &&& s.r 5))
def nC (n : Int) : Array Value := if n < 0 then trapC 0 0 false else trapC n 0 true
def nPost (n : Int) (w : World) (e : Ending) (w' : World) : Prop := e = .returned (.tuple #[.agg (nC n), .bool (decide (0 ≤ n))]) ∧ KpN w w'
theorem nC_yes {n : Int} (h : 0 ≤ n) : nC n = trapC n 0 true := if_neg (by omega)
theorem nC_no {n : Int} (h : n < 0) : nC n = trapC 0 0 false := if_pos h
set_option maxHeartbeats 8000000 in
set_option maxRecDepth 100000 in
theorem rnext_ua (s : VS) (w : World) (hs : s.ok) (v1 v2 : Int) (e1 : firstW (minus (rsetqW s) (s.r 5)) = v1) (e2 : firstW (rsetqW s &&& s.r 5) = v2) (hm : s.m = 0) (ho : 0 ≤ v1) :
    Calls Try.prog 18 #[.agg s.cells] w (nPost (v1) w) := by
  have PN : Aside0 (∀ W, Calls Try.prog 47 #[.agg s.cells] W fun e w' => e = .returned (.int .u64 ((rpendW s : Nat) : Int)) ∧ KpN W w') := ⟨fun W => pend_r s W hs⟩
  have A1 : Aside0 (∀ W, Calls Try.prog 36 #[.int .u64 ((rpendW s : Nat) : Int), .int .u64 (s.r 6 : Int)] W fun e w' => e = .returned (.int .u64 ((rsetqW s : Nat) : Int)) ∧ KpN W w') := ⟨fun W => and_r _ _ W (rpend_ok hs) (hs 6)⟩
  have hn : U (18446744073709551615 - s.r 5) := ⟨by omega⟩
  have A2 : Aside0 (∀ W, Calls Try.prog 36 #[.int .u64 ((rsetqW s : Nat) : Int), .int .u64 ((18446744073709551615 - s.r 5 : Nat) : Int)] W fun e w' => e = .returned (.int .u64 ((minus (rsetqW s) (s.r 5) : Nat) : Int)) ∧ KpN W w') := ⟨fun W => and_r _ _ W (rsetqW_ok hs) hn⟩
  have A3 : Aside0 (∀ W, Calls Try.prog 36 #[.int .u64 ((rsetqW s : Nat) : Int), .int .u64 (s.r 5 : Int)] W fun e w' => e = .returned (.int .u64 ((rsetqW s &&& s.r 5 : Nat) : Int)) ∧ KpN W w') := ⟨fun W => and_r _ _ W (rsetqW_ok hs) (hs 5)⟩
  have F1 : Aside0 (∀ W, Calls Try.prog 48 #[.int .u64 ((minus (rsetqW s) (s.r 5) : Nat) : Int)] W fun e w' => e = .returned (.int .i64 v1) ∧ KpN W w') := ⟨fun W => by rw [← e1]; exact first_r _ W (rsetqW_ok hs).minus⟩
  have F2 : Aside0 (∀ W, Calls Try.prog 48 #[.int .u64 ((rsetqW s &&& s.r 5 : Nat) : Int)] W fun e w' => e = .returned (.int .i64 v2) ∧ KpN W w') := ⟨fun W => by rw [← e2]; exact first_r _ W (rsetqW_ok hs).and⟩
  have en : Go.bits .xor .u64 IntKind.u64.max (s.r 5 : Int) = ((18446744073709551615 - s.r 5 : Nat) : Int) := not_nat _ (hs 5).lt
  generalize 18446744073709551615 - s.r 5 = nk at en A2
  generalize minus (rsetqW s) (s.r 5) = o1 at A2 F1
  generalize rsetqW s &&& s.r 5 = o2 at A3 F2
  generalize rsetqW s = rs at A1 A2 A3
  generalize rpendW s = rp at PN A1
  have t1 : decide (0 ≤ v1) = true := decide_eq_true (by omega)
  have HC : Aside0 (nC (v1) = trapC v1 0 true) := ⟨nC_yes (by omega)⟩
  have HB : Aside0 (decide (0 ≤ (v1 : Int)) = true) := ⟨decide_eq_true (by omega)⟩
  have Hm := Aside0.mk hm
  clear hm e1 e2 hn ho
  have HS := Aside0.mk hs
  clear hs
  go_enter Try.func18, Try.ntmps18
  go_wp2_with (first
    | (((with_reducible refine gate_dst (N := 1) rfl ?_); refine bx_ev rfl rfl (N := 1) rfl (s.cells) rfl ?_; intro g hg_g w1 hb_g hk_g; have Hg_g := Aside0.mk hg_g; clear hg_g); have hI1 : St RT w1 g s := St.mk hb_g)
    | (((with_reducible refine gate_dst (N := 2) rfl ?_); refine al_ev rfl rfl (N := 2) rfl _ (zeroT _) ?_; intro q hg_q w2 hb_q hk_q; have Hg_q := Aside0.mk hg_q; clear hg_q); have hI2 := hI1.kp hk_q (fun h => h); have hQ2 := Bk.mk hb_q))
  have hgq : g ≠ q := by have := Hg_q.out; have := hI1.lt; omega
  have hqw : w.heap.size ≤ q := by have := Hg_q.out; have := hk_g.size; omega
  have K2 : KpN w w2 := hk_g.trans hk_q
  clear hI1 hb_g hb_q hk_g hk_q Hg_g Hg_q
  have cQ1 := rg_calls (w := w2) fun W _ => PN.out W
  have cQ2 := rg_calls (w := w2) fun W _ => A1.out W
  have kb : ∀ W, Rg w2 W → W.heap[g]? = some (.cells s.cells 34 (0, 0)) := fun W h => (hI2.kp h.kp (fun h => h)).blk
  have kc := cell_regrown (hI2.c 6)
  refine wp_region_quiet_below (by kernel_rfl) (by kernel_rfl) ?_
  refine wpQuiet_ld (C := Rg w2) (by rfl) rfl g rfl 34 s.cells _ kb rfl rfl rfl ?_
  clear kb
  repeat (quiet_step (first | with_reducible exact cQ1 _ _ | with_reducible exact cQ2 _ _))
  refine wpQuiet_nil ?_
  intro w3 hw3
  replace hw3 : Rg w2 w3 := hw3
  have hI3 := hI2.kp hw3.kp (fun h => h)
  have hQ3 := hQ2.kp hw3.kp (fun h => h)
  have K3 := K2.trans hw3.kp
  have c5 := hI3.c 5
  clear hI2 hQ2 K2 hw3 cQ1 cQ2 kc
  go_wp2_with (first
    | (go_at_call 36; (with_reducible refine (A2.out _).mono ?_); rintro e w4 ⟨rfl, k4⟩)
    | (go_at_call 48; (with_reducible refine (F1.out _).mono ?_); rintro e w5 ⟨rfl, k5⟩; have hI5 := (hI3.kp k4 (fun h => h)).kp k5 (fun h => h); have d5 := hI5.c 5))
  refine (A3.out _).mono ?_
  rintro e w6 ⟨rfl, k6⟩
  go_wp2_with (fail)
  refine (F2.out _).mono ?_
  rintro e w7 ⟨rfl, k7⟩
  have hI7 := (hI5.kp k6 (fun h => h)).kp k7 (fun h => h)
  have hQ7 := (((hQ3.kp k4 (fun h => h)).kp k5 (fun h => h)).kp k6 (fun h => h)).kp k7 (fun h => h)
  have K7 := (((K3.trans k4).trans k5).trans k6).trans k7
  have c0 := hI7.c0
  rw [Hm.out] at c0
  clear hI3 hQ3 K3 c5 k4 k5 k6 k7 hI5 d5 A1 A2 A3 F1 F2 PN en
  go_wp2_with (first
    | ((with_reducible refine gate_store (t := 27) (p := 2) rfl ?_); refine st_ev rfl rfl rfl q (trapC v1 0 true) _ _ rfl rfl (hQ7.blk) infoT rfl (trapC_one _ _ _) ?_; intro wz hs_wz ks_wz)
    )
  refine bodyPost_ret (results_ct rfl _ _ q (trapC v1 0 true) (.bool true) _ rfl rfl hs_wz Try.underlying27 rfl infoT) rfl ?_
  refine ⟨by rw [HC.out, HB.out], ?_⟩
  exact K7.then ks_wz fun i hi (e : i = q) => by omega
set_option maxHeartbeats 8000000 in
set_option maxRecDepth 100000 in
theorem rnext_ub (s : VS) (w : World) (hs : s.ok) (v1 v2 : Int) (e1 : firstW (minus (rsetqW s) (s.r 5)) = v1) (e2 : firstW (rsetqW s &&& s.r 5) = v2) (hm : s.m = 0) (ho : v1 < 0) (hr : 0 ≤ v2) :
    Calls Try.prog 18 #[.agg s.cells] w (nPost (v2) w) := by
  have PN : Aside0 (∀ W, Calls Try.prog 47 #[.agg s.cells] W fun e w' => e = .returned (.int .u64 ((rpendW s : Nat) : Int)) ∧ KpN W w') := ⟨fun W => pend_r s W hs⟩
  have A1 : Aside0 (∀ W, Calls Try.prog 36 #[.int .u64 ((rpendW s : Nat) : Int), .int .u64 (s.r 6 : Int)] W fun e w' => e = .returned (.int .u64 ((rsetqW s : Nat) : Int)) ∧ KpN W w') := ⟨fun W => and_r _ _ W (rpend_ok hs) (hs 6)⟩
  have hn : U (18446744073709551615 - s.r 5) := ⟨by omega⟩
  have A2 : Aside0 (∀ W, Calls Try.prog 36 #[.int .u64 ((rsetqW s : Nat) : Int), .int .u64 ((18446744073709551615 - s.r 5 : Nat) : Int)] W fun e w' => e = .returned (.int .u64 ((minus (rsetqW s) (s.r 5) : Nat) : Int)) ∧ KpN W w') := ⟨fun W => and_r _ _ W (rsetqW_ok hs) hn⟩
  have A3 : Aside0 (∀ W, Calls Try.prog 36 #[.int .u64 ((rsetqW s : Nat) : Int), .int .u64 (s.r 5 : Int)] W fun e w' => e = .returned (.int .u64 ((rsetqW s &&& s.r 5 : Nat) : Int)) ∧ KpN W w') := ⟨fun W => and_r _ _ W (rsetqW_ok hs) (hs 5)⟩
  have F1 : Aside0 (∀ W, Calls Try.prog 48 #[.int .u64 ((minus (rsetqW s) (s.r 5) : Nat) : Int)] W fun e w' => e = .returned (.int .i64 v1) ∧ KpN W w') := ⟨fun W => by rw [← e1]; exact first_r _ W (rsetqW_ok hs).minus⟩
  have F2 : Aside0 (∀ W, Calls Try.prog 48 #[.int .u64 ((rsetqW s &&& s.r 5 : Nat) : Int)] W fun e w' => e = .returned (.int .i64 v2) ∧ KpN W w') := ⟨fun W => by rw [← e2]; exact first_r _ W (rsetqW_ok hs).and⟩
  have en : Go.bits .xor .u64 IntKind.u64.max (s.r 5 : Int) = ((18446744073709551615 - s.r 5 : Nat) : Int) := not_nat _ (hs 5).lt
  generalize 18446744073709551615 - s.r 5 = nk at en A2
  generalize minus (rsetqW s) (s.r 5) = o1 at A2 F1
  generalize rsetqW s &&& s.r 5 = o2 at A3 F2
  generalize rsetqW s = rs at A1 A2 A3
  generalize rpendW s = rp at PN A1
  have t1 : decide (0 ≤ v1) = false := decide_eq_false (by omega)
  have t2 : decide (0 ≤ v2) = true := decide_eq_true (by omega)
  have HC : Aside0 (nC (v2) = trapC v2 0 true) := ⟨nC_yes (by omega)⟩
  have HB : Aside0 (decide (0 ≤ (v2 : Int)) = true) := ⟨decide_eq_true (by omega)⟩
  have Hm := Aside0.mk hm
  clear hm e1 e2 hn ho hr
  have HS := Aside0.mk hs
  clear hs
  go_enter Try.func18, Try.ntmps18
  go_wp2_with (first
    | (((with_reducible refine gate_dst (N := 1) rfl ?_); refine bx_ev rfl rfl (N := 1) rfl (s.cells) rfl ?_; intro g hg_g w1 hb_g hk_g; have Hg_g := Aside0.mk hg_g; clear hg_g); have hI1 : St RT w1 g s := St.mk hb_g)
    | (((with_reducible refine gate_dst (N := 2) rfl ?_); refine al_ev rfl rfl (N := 2) rfl _ (zeroT _) ?_; intro q hg_q w2 hb_q hk_q; have Hg_q := Aside0.mk hg_q; clear hg_q); have hI2 := hI1.kp hk_q (fun h => h); have hQ2 := Bk.mk hb_q))
  have hgq : g ≠ q := by have := Hg_q.out; have := hI1.lt; omega
  have hqw : w.heap.size ≤ q := by have := Hg_q.out; have := hk_g.size; omega
  have K2 : KpN w w2 := hk_g.trans hk_q
  clear hI1 hb_g hb_q hk_g hk_q Hg_g Hg_q
  have cQ1 := rg_calls (w := w2) fun W _ => PN.out W
  have cQ2 := rg_calls (w := w2) fun W _ => A1.out W
  have kb : ∀ W, Rg w2 W → W.heap[g]? = some (.cells s.cells 34 (0, 0)) := fun W h => (hI2.kp h.kp (fun h => h)).blk
  have kc := cell_regrown (hI2.c 6)
  refine wp_region_quiet_below (by kernel_rfl) (by kernel_rfl) ?_
  refine wpQuiet_ld (C := Rg w2) (by rfl) rfl g rfl 34 s.cells _ kb rfl rfl rfl ?_
  clear kb
  repeat (quiet_step (first | with_reducible exact cQ1 _ _ | with_reducible exact cQ2 _ _))
  refine wpQuiet_nil ?_
  intro w3 hw3
  replace hw3 : Rg w2 w3 := hw3
  have hI3 := hI2.kp hw3.kp (fun h => h)
  have hQ3 := hQ2.kp hw3.kp (fun h => h)
  have K3 := K2.trans hw3.kp
  have c5 := hI3.c 5
  clear hI2 hQ2 K2 hw3 cQ1 cQ2 kc
  go_wp2_with (first
    | (go_at_call 36; (with_reducible refine (A2.out _).mono ?_); rintro e w4 ⟨rfl, k4⟩)
    | (go_at_call 48; (with_reducible refine (F1.out _).mono ?_); rintro e w5 ⟨rfl, k5⟩; have hI5 := (hI3.kp k4 (fun h => h)).kp k5 (fun h => h); have d5 := hI5.c 5))
  refine (A3.out _).mono ?_
  rintro e w6 ⟨rfl, k6⟩
  go_wp2_with (fail)
  refine (F2.out _).mono ?_
  rintro e w7 ⟨rfl, k7⟩
  have hI7 := (hI5.kp k6 (fun h => h)).kp k7 (fun h => h)
  have hQ7 := (((hQ3.kp k4 (fun h => h)).kp k5 (fun h => h)).kp k6 (fun h => h)).kp k7 (fun h => h)
  have K7 := (((K3.trans k4).trans k5).trans k6).trans k7
  have c0 := hI7.c0
  rw [Hm.out] at c0
  clear hI3 hQ3 K3 c5 k4 k5 k6 k7 hI5 d5 A1 A2 A3 F1 F2 PN en
  go_wp2_with (first
    | ((with_reducible refine gate_store (t := 27) (p := 2) rfl ?_); refine st_ev rfl rfl rfl q (trapC v2 0 true) _ _ rfl rfl (hQ7.blk) infoT rfl (trapC_one _ _ _) ?_; intro wz hs_wz ks_wz)
    )
  refine bodyPost_ret (results_ct rfl _ _ q (trapC v2 0 true) (.bool true) _ rfl rfl hs_wz Try.underlying27 rfl infoT) rfl ?_
  refine ⟨by rw [HC.out, HB.out], ?_⟩
  exact K7.then ks_wz fun i hi (e : i = q) => by omega
set_option maxHeartbeats 8000000 in
set_option maxRecDepth 100000 in
theorem rnext_uc (s : VS) (w : World) (hs : s.ok) (v1 v2 : Int) (e1 : firstW (minus (rsetqW s) (s.r 5)) = v1) (e2 : firstW (rsetqW s &&& s.r 5) = v2) (hm : s.m = 0) (ho : v1 < 0) (hr : v2 < 0) :
    Calls Try.prog 18 #[.agg s.cells] w (nPost (-1) w) := by
  have PN : Aside0 (∀ W, Calls Try.prog 47 #[.agg s.cells] W fun e w' => e = .returned (.int .u64 ((rpendW s : Nat) : Int)) ∧ KpN W w') := ⟨fun W => pend_r s W hs⟩
  have A1 : Aside0 (∀ W, Calls Try.prog 36 #[.int .u64 ((rpendW s : Nat) : Int), .int .u64 (s.r 6 : Int)] W fun e w' => e = .returned (.int .u64 ((rsetqW s : Nat) : Int)) ∧ KpN W w') := ⟨fun W => and_r _ _ W (rpend_ok hs) (hs 6)⟩
  have hn : U (18446744073709551615 - s.r 5) := ⟨by omega⟩
  have A2 : Aside0 (∀ W, Calls Try.prog 36 #[.int .u64 ((rsetqW s : Nat) : Int), .int .u64 ((18446744073709551615 - s.r 5 : Nat) : Int)] W fun e w' => e = .returned (.int .u64 ((minus (rsetqW s) (s.r 5) : Nat) : Int)) ∧ KpN W w') := ⟨fun W => and_r _ _ W (rsetqW_ok hs) hn⟩
  have A3 : Aside0 (∀ W, Calls Try.prog 36 #[.int .u64 ((rsetqW s : Nat) : Int), .int .u64 (s.r 5 : Int)] W fun e w' => e = .returned (.int .u64 ((rsetqW s &&& s.r 5 : Nat) : Int)) ∧ KpN W w') := ⟨fun W => and_r _ _ W (rsetqW_ok hs) (hs 5)⟩
  have F1 : Aside0 (∀ W, Calls Try.prog 48 #[.int .u64 ((minus (rsetqW s) (s.r 5) : Nat) : Int)] W fun e w' => e = .returned (.int .i64 v1) ∧ KpN W w') := ⟨fun W => by rw [← e1]; exact first_r _ W (rsetqW_ok hs).minus⟩
  have F2 : Aside0 (∀ W, Calls Try.prog 48 #[.int .u64 ((rsetqW s &&& s.r 5 : Nat) : Int)] W fun e w' => e = .returned (.int .i64 v2) ∧ KpN W w') := ⟨fun W => by rw [← e2]; exact first_r _ W (rsetqW_ok hs).and⟩
  have en : Go.bits .xor .u64 IntKind.u64.max (s.r 5 : Int) = ((18446744073709551615 - s.r 5 : Nat) : Int) := not_nat _ (hs 5).lt
  generalize 18446744073709551615 - s.r 5 = nk at en A2
  generalize minus (rsetqW s) (s.r 5) = o1 at A2 F1
  generalize rsetqW s &&& s.r 5 = o2 at A3 F2
  generalize rsetqW s = rs at A1 A2 A3
  generalize rpendW s = rp at PN A1
  have t1 : decide (0 ≤ v1) = false := decide_eq_false (by omega)
  have t2 : decide (0 ≤ v2) = false := decide_eq_false (by omega)
  have HC : Aside0 (nC (-1) = trapC 0 0 false) := ⟨nC_no (by omega)⟩
  have HB : Aside0 (decide (0 ≤ (-1 : Int)) = false) := ⟨decide_eq_false (by omega)⟩
  have Hm := Aside0.mk hm
  clear hm e1 e2 hn ho hr
  have HS := Aside0.mk hs
  clear hs
  go_enter Try.func18, Try.ntmps18
  go_wp2_with (first
    | (((with_reducible refine gate_dst (N := 1) rfl ?_); refine bx_ev rfl rfl (N := 1) rfl (s.cells) rfl ?_; intro g hg_g w1 hb_g hk_g; have Hg_g := Aside0.mk hg_g; clear hg_g); have hI1 : St RT w1 g s := St.mk hb_g)
    | (((with_reducible refine gate_dst (N := 2) rfl ?_); refine al_ev rfl rfl (N := 2) rfl _ (zeroT _) ?_; intro q hg_q w2 hb_q hk_q; have Hg_q := Aside0.mk hg_q; clear hg_q); have hI2 := hI1.kp hk_q (fun h => h); have hQ2 := Bk.mk hb_q))
  have hgq : g ≠ q := by have := Hg_q.out; have := hI1.lt; omega
  have hqw : w.heap.size ≤ q := by have := Hg_q.out; have := hk_g.size; omega
  have K2 : KpN w w2 := hk_g.trans hk_q
  clear hI1 hb_g hb_q hk_g hk_q Hg_g Hg_q
  have cQ1 := rg_calls (w := w2) fun W _ => PN.out W
  have cQ2 := rg_calls (w := w2) fun W _ => A1.out W
  have kb : ∀ W, Rg w2 W → W.heap[g]? = some (.cells s.cells 34 (0, 0)) := fun W h => (hI2.kp h.kp (fun h => h)).blk
  have kc := cell_regrown (hI2.c 6)
  refine wp_region_quiet_below (by kernel_rfl) (by kernel_rfl) ?_
  refine wpQuiet_ld (C := Rg w2) (by rfl) rfl g rfl 34 s.cells _ kb rfl rfl rfl ?_
  clear kb
  repeat (quiet_step (first | with_reducible exact cQ1 _ _ | with_reducible exact cQ2 _ _))
  refine wpQuiet_nil ?_
  intro w3 hw3
  replace hw3 : Rg w2 w3 := hw3
  have hI3 := hI2.kp hw3.kp (fun h => h)
  have hQ3 := hQ2.kp hw3.kp (fun h => h)
  have K3 := K2.trans hw3.kp
  have c5 := hI3.c 5
  clear hI2 hQ2 K2 hw3 cQ1 cQ2 kc
  go_wp2_with (first
    | (go_at_call 36; (with_reducible refine (A2.out _).mono ?_); rintro e w4 ⟨rfl, k4⟩)
    | (go_at_call 48; (with_reducible refine (F1.out _).mono ?_); rintro e w5 ⟨rfl, k5⟩; have hI5 := (hI3.kp k4 (fun h => h)).kp k5 (fun h => h); have d5 := hI5.c 5))
  refine (A3.out _).mono ?_
  rintro e w6 ⟨rfl, k6⟩
  go_wp2_with (fail)
  refine (F2.out _).mono ?_
  rintro e w7 ⟨rfl, k7⟩
  have hI7 := (hI5.kp k6 (fun h => h)).kp k7 (fun h => h)
  have hQ7 := (((hQ3.kp k4 (fun h => h)).kp k5 (fun h => h)).kp k6 (fun h => h)).kp k7 (fun h => h)
  have K7 := (((K3.trans k4).trans k5).trans k6).trans k7
  have c0 := hI7.c0
  rw [Hm.out] at c0
  clear hI3 hQ3 K3 c5 k4 k5 k6 k7 hI5 d5 A1 A2 A3 F1 F2 PN en
  go_wp2_with (first
    | ((with_reducible refine gate_store (t := 27) (p := 2) rfl ?_); refine st_ev rfl rfl rfl q (trapC 0 0 false) _ _ rfl rfl (hQ7.blk) infoT rfl (trapC_one _ _ _) ?_; intro wz hs_wz ks_wz)
    )
  refine bodyPost_ret (results_ct rfl _ _ q (trapC 0 0 false) (.bool false) _ rfl rfl hs_wz Try.underlying27 rfl infoT) rfl ?_
  refine ⟨by rw [HC.out, HB.out], ?_⟩
  exact K7.then ks_wz fun i hi (e : i = q) => by omega
set_option maxHeartbeats 8000000 in
set_option maxRecDepth 100000 in
theorem rnext_sa (s : VS) (w : World) (hs : s.ok) (v1 v2 : Int) (e1 : firstW (minus (rsetqW s) (s.r 5)) = v1) (e2 : firstW (rsetqW s &&& s.r 5) = v2) (hm : s.m = 1) (ho : 0 ≤ v1) :
    Calls Try.prog 18 #[.agg s.cells] w (nPost (v1) w) := by
  have PN : Aside0 (∀ W, Calls Try.prog 47 #[.agg s.cells] W fun e w' => e = .returned (.int .u64 ((rpendW s : Nat) : Int)) ∧ KpN W w') := ⟨fun W => pend_r s W hs⟩
  have A1 : Aside0 (∀ W, Calls Try.prog 36 #[.int .u64 ((rpendW s : Nat) : Int), .int .u64 (s.r 6 : Int)] W fun e w' => e = .returned (.int .u64 ((rsetqW s : Nat) : Int)) ∧ KpN W w') := ⟨fun W => and_r _ _ W (rpend_ok hs) (hs 6)⟩
  have hn : U (18446744073709551615 - s.r 5) := ⟨by omega⟩
  have A2 : Aside0 (∀ W, Calls Try.prog 36 #[.int .u64 ((rsetqW s : Nat) : Int), .int .u64 ((18446744073709551615 - s.r 5 : Nat) : Int)] W fun e w' => e = .returned (.int .u64 ((minus (rsetqW s) (s.r 5) : Nat) : Int)) ∧ KpN W w') := ⟨fun W => and_r _ _ W (rsetqW_ok hs) hn⟩
  have A3 : Aside0 (∀ W, Calls Try.prog 36 #[.int .u64 ((rsetqW s : Nat) : Int), .int .u64 (s.r 5 : Int)] W fun e w' => e = .returned (.int .u64 ((rsetqW s &&& s.r 5 : Nat) : Int)) ∧ KpN W w') := ⟨fun W => and_r _ _ W (rsetqW_ok hs) (hs 5)⟩
  have F1 : Aside0 (∀ W, Calls Try.prog 48 #[.int .u64 ((minus (rsetqW s) (s.r 5) : Nat) : Int)] W fun e w' => e = .returned (.int .i64 v1) ∧ KpN W w') := ⟨fun W => by rw [← e1]; exact first_r _ W (rsetqW_ok hs).minus⟩
  have F2 : Aside0 (∀ W, Calls Try.prog 48 #[.int .u64 ((rsetqW s &&& s.r 5 : Nat) : Int)] W fun e w' => e = .returned (.int .i64 v2) ∧ KpN W w') := ⟨fun W => by rw [← e2]; exact first_r _ W (rsetqW_ok hs).and⟩
  have en : Go.bits .xor .u64 IntKind.u64.max (s.r 5 : Int) = ((18446744073709551615 - s.r 5 : Nat) : Int) := not_nat _ (hs 5).lt
  generalize 18446744073709551615 - s.r 5 = nk at en A2
  generalize minus (rsetqW s) (s.r 5) = o1 at A2 F1
  generalize rsetqW s &&& s.r 5 = o2 at A3 F2
  generalize rsetqW s = rs at A1 A2 A3
  generalize rpendW s = rp at PN A1
  have t1 : decide (0 ≤ v1) = true := decide_eq_true (by omega)
  have HC : Aside0 (nC (v1) = trapC v1 0 true) := ⟨nC_yes (by omega)⟩
  have HB : Aside0 (decide (0 ≤ (v1 : Int)) = true) := ⟨decide_eq_true (by omega)⟩
  have Hm := Aside0.mk hm
  clear hm e1 e2 hn ho
  have HS := Aside0.mk hs
  clear hs
  go_enter Try.func18, Try.ntmps18
  go_wp2_with (first
    | (((with_reducible refine gate_dst (N := 1) rfl ?_); refine bx_ev rfl rfl (N := 1) rfl (s.cells) rfl ?_; intro g hg_g w1 hb_g hk_g; have Hg_g := Aside0.mk hg_g; clear hg_g); have hI1 : St RT w1 g s := St.mk hb_g)
    | (((with_reducible refine gate_dst (N := 2) rfl ?_); refine al_ev rfl rfl (N := 2) rfl _ (zeroT _) ?_; intro q hg_q w2 hb_q hk_q; have Hg_q := Aside0.mk hg_q; clear hg_q); have hI2 := hI1.kp hk_q (fun h => h); have hQ2 := Bk.mk hb_q))
  have hgq : g ≠ q := by have := Hg_q.out; have := hI1.lt; omega
  have hqw : w.heap.size ≤ q := by have := Hg_q.out; have := hk_g.size; omega
  have K2 : KpN w w2 := hk_g.trans hk_q
  clear hI1 hb_g hb_q hk_g hk_q Hg_g Hg_q
  have cQ1 := rg_calls (w := w2) fun W _ => PN.out W
  have cQ2 := rg_calls (w := w2) fun W _ => A1.out W
  have kb : ∀ W, Rg w2 W → W.heap[g]? = some (.cells s.cells 34 (0, 0)) := fun W h => (hI2.kp h.kp (fun h => h)).blk
  have kc := cell_regrown (hI2.c 6)
  refine wp_region_quiet_below (by kernel_rfl) (by kernel_rfl) ?_
  refine wpQuiet_ld (C := Rg w2) (by rfl) rfl g rfl 34 s.cells _ kb rfl rfl rfl ?_
  clear kb
  repeat (quiet_step (first | with_reducible exact cQ1 _ _ | with_reducible exact cQ2 _ _))
  refine wpQuiet_nil ?_
  intro w3 hw3
  replace hw3 : Rg w2 w3 := hw3
  have hI3 := hI2.kp hw3.kp (fun h => h)
  have hQ3 := hQ2.kp hw3.kp (fun h => h)
  have K3 := K2.trans hw3.kp
  have c5 := hI3.c 5
  clear hI2 hQ2 K2 hw3 cQ1 cQ2 kc
  go_wp2_with (first
    | (go_at_call 36; (with_reducible refine (A2.out _).mono ?_); rintro e w4 ⟨rfl, k4⟩)
    | (go_at_call 48; (with_reducible refine (F1.out _).mono ?_); rintro e w5 ⟨rfl, k5⟩; have hI5 := (hI3.kp k4 (fun h => h)).kp k5 (fun h => h); have d5 := hI5.c 5))
  refine (A3.out _).mono ?_
  rintro e w6 ⟨rfl, k6⟩
  go_wp2_with (fail)
  refine (F2.out _).mono ?_
  rintro e w7 ⟨rfl, k7⟩
  have hI7 := (hI5.kp k6 (fun h => h)).kp k7 (fun h => h)
  have hQ7 := (((hQ3.kp k4 (fun h => h)).kp k5 (fun h => h)).kp k6 (fun h => h)).kp k7 (fun h => h)
  have K7 := (((K3.trans k4).trans k5).trans k6).trans k7
  have c0 := hI7.c0
  rw [Hm.out] at c0
  clear hI3 hQ3 K3 c5 k4 k5 k6 k7 hI5 d5 A1 A2 A3 F1 F2 PN en
  go_wp2_with (first
    | ((with_reducible refine gate_store (t := 27) (p := 2) rfl ?_); refine st_ev rfl rfl rfl q (trapC v1 0 true) _ _ rfl rfl (hQ7.blk) infoT rfl (trapC_one _ _ _) ?_; intro wz hs_wz ks_wz)
    )
  refine bodyPost_ret (results_ct rfl _ _ q (trapC v1 0 true) (.bool true) _ rfl rfl hs_wz Try.underlying27 rfl infoT) rfl ?_
  refine ⟨by rw [HC.out, HB.out], ?_⟩
  exact K7.then ks_wz fun i hi (e : i = q) => by omega
set_option maxHeartbeats 8000000 in
set_option maxRecDepth 100000 in
theorem rnext_sb (s : VS) (w : World) (hs : s.ok) (v1 v2 : Int) (e1 : firstW (minus (rsetqW s) (s.r 5)) = v1) (e2 : firstW (rsetqW s &&& s.r 5) = v2) (hm : s.m = 1) (ho : v1 < 0) (hr : 0 ≤ v2) (hb1 : bitW (s.r 1) 1 = true) :
    Calls Try.prog 18 #[.agg s.cells] w (nPost (v2) w) := by
  have PN : Aside0 (∀ W, Calls Try.prog 47 #[.agg s.cells] W fun e w' => e = .returned (.int .u64 ((rpendW s : Nat) : Int)) ∧ KpN W w') := ⟨fun W => pend_r s W hs⟩
  have A1 : Aside0 (∀ W, Calls Try.prog 36 #[.int .u64 ((rpendW s : Nat) : Int), .int .u64 (s.r 6 : Int)] W fun e w' => e = .returned (.int .u64 ((rsetqW s : Nat) : Int)) ∧ KpN W w') := ⟨fun W => and_r _ _ W (rpend_ok hs) (hs 6)⟩
  have hn : U (18446744073709551615 - s.r 5) := ⟨by omega⟩
  have A2 : Aside0 (∀ W, Calls Try.prog 36 #[.int .u64 ((rsetqW s : Nat) : Int), .int .u64 ((18446744073709551615 - s.r 5 : Nat) : Int)] W fun e w' => e = .returned (.int .u64 ((minus (rsetqW s) (s.r 5) : Nat) : Int)) ∧ KpN W w') := ⟨fun W => and_r _ _ W (rsetqW_ok hs) hn⟩
  have A3 : Aside0 (∀ W, Calls Try.prog 36 #[.int .u64 ((rsetqW s : Nat) : Int), .int .u64 (s.r 5 : Int)] W fun e w' => e = .returned (.int .u64 ((rsetqW s &&& s.r 5 : Nat) : Int)) ∧ KpN W w') := ⟨fun W => and_r _ _ W (rsetqW_ok hs) (hs 5)⟩
  have F1 : Aside0 (∀ W, Calls Try.prog 48 #[.int .u64 ((minus (rsetqW s) (s.r 5) : Nat) : Int)] W fun e w' => e = .returned (.int .i64 v1) ∧ KpN W w') := ⟨fun W => by rw [← e1]; exact first_r _ W (rsetqW_ok hs).minus⟩
  have F2 : Aside0 (∀ W, Calls Try.prog 48 #[.int .u64 ((rsetqW s &&& s.r 5 : Nat) : Int)] W fun e w' => e = .returned (.int .i64 v2) ∧ KpN W w') := ⟨fun W => by rw [← e2]; exact first_r _ W (rsetqW_ok hs).and⟩
  have en : Go.bits .xor .u64 IntKind.u64.max (s.r 5 : Int) = ((18446744073709551615 - s.r 5 : Nat) : Int) := not_nat _ (hs 5).lt
  generalize 18446744073709551615 - s.r 5 = nk at en A2
  generalize minus (rsetqW s) (s.r 5) = o1 at A2 F1
  generalize rsetqW s &&& s.r 5 = o2 at A3 F2
  generalize rsetqW s = rs at A1 A2 A3
  generalize rpendW s = rp at PN A1
  have I1 : Aside0 (∀ W, Calls Try.prog 26 #[.agg s.cells, .int .i64 1] W fun e w' => e = .returned (.bool true) ∧ KpN W w') := ⟨fun W => by have := is_r s 1 W hs; rw [hb1] at this; exact this⟩
  have t1 : decide (0 ≤ v1) = false := decide_eq_false (by omega)
  have t2 : decide (0 ≤ v2) = true := decide_eq_true (by omega)
  have HC : Aside0 (nC (v2) = trapC v2 0 true) := ⟨nC_yes (by omega)⟩
  have HB : Aside0 (decide (0 ≤ (v2 : Int)) = true) := ⟨decide_eq_true (by omega)⟩
  have Hm := Aside0.mk hm
  clear hm e1 e2 hn ho hr hb1
  have HS := Aside0.mk hs
  clear hs
  go_enter Try.func18, Try.ntmps18
  go_wp2_with (first
    | (((with_reducible refine gate_dst (N := 1) rfl ?_); refine bx_ev rfl rfl (N := 1) rfl (s.cells) rfl ?_; intro g hg_g w1 hb_g hk_g; have Hg_g := Aside0.mk hg_g; clear hg_g); have hI1 : St RT w1 g s := St.mk hb_g)
    | (((with_reducible refine gate_dst (N := 2) rfl ?_); refine al_ev rfl rfl (N := 2) rfl _ (zeroT _) ?_; intro q hg_q w2 hb_q hk_q; have Hg_q := Aside0.mk hg_q; clear hg_q); have hI2 := hI1.kp hk_q (fun h => h); have hQ2 := Bk.mk hb_q))
  have hgq : g ≠ q := by have := Hg_q.out; have := hI1.lt; omega
  have hqw : w.heap.size ≤ q := by have := Hg_q.out; have := hk_g.size; omega
  have K2 : KpN w w2 := hk_g.trans hk_q
  clear hI1 hb_g hb_q hk_g hk_q Hg_g Hg_q
  have cQ1 := rg_calls (w := w2) fun W _ => PN.out W
  have cQ2 := rg_calls (w := w2) fun W _ => A1.out W
  have kb : ∀ W, Rg w2 W → W.heap[g]? = some (.cells s.cells 34 (0, 0)) := fun W h => (hI2.kp h.kp (fun h => h)).blk
  have kc := cell_regrown (hI2.c 6)
  refine wp_region_quiet_below (by kernel_rfl) (by kernel_rfl) ?_
  refine wpQuiet_ld (C := Rg w2) (by rfl) rfl g rfl 34 s.cells _ kb rfl rfl rfl ?_
  clear kb
  repeat (quiet_step (first | with_reducible exact cQ1 _ _ | with_reducible exact cQ2 _ _))
  refine wpQuiet_nil ?_
  intro w3 hw3
  replace hw3 : Rg w2 w3 := hw3
  have hI3 := hI2.kp hw3.kp (fun h => h)
  have hQ3 := hQ2.kp hw3.kp (fun h => h)
  have K3 := K2.trans hw3.kp
  have c5 := hI3.c 5
  clear hI2 hQ2 K2 hw3 cQ1 cQ2 kc
  go_wp2_with (first
    | (go_at_call 36; (with_reducible refine (A2.out _).mono ?_); rintro e w4 ⟨rfl, k4⟩)
    | (go_at_call 48; (with_reducible refine (F1.out _).mono ?_); rintro e w5 ⟨rfl, k5⟩; have hI5 := (hI3.kp k4 (fun h => h)).kp k5 (fun h => h); have d5 := hI5.c 5))
  refine (A3.out _).mono ?_
  rintro e w6 ⟨rfl, k6⟩
  go_wp2_with (fail)
  refine (F2.out _).mono ?_
  rintro e w7 ⟨rfl, k7⟩
  have hI7 := (hI5.kp k6 (fun h => h)).kp k7 (fun h => h)
  have hQ7 := (((hQ3.kp k4 (fun h => h)).kp k5 (fun h => h)).kp k6 (fun h => h)).kp k7 (fun h => h)
  have K7 := (((K3.trans k4).trans k5).trans k6).trans k7
  have c0 := hI7.c0
  rw [Hm.out] at c0
  clear hI3 hQ3 K3 c5 k4 k5 k6 k7 hI5 d5 A1 A2 A3 F1 F2 PN en
  go_wp2_with (first
    | ((with_reducible refine gate_dst (N := 50) rfl ?_); refine wpList_in (by rfl) (wp_load_row 34 _ rfl g rfl _ (s.cells) (0, 0) _ (hI7.blk) Try.underlying34 rfl infoR ?_))
    | (go_at_call 26; (with_reducible refine (I1.out _).mono ?_); rintro e w8 ⟨rfl, k8⟩; have hQ8 := hQ7.kp k8 (fun h => h); have K8 := K7.trans k8)
    | ((with_reducible refine gate_store (t := 27) (p := 2) rfl ?_); refine st_ev rfl rfl rfl q (trapC v2 0 true) _ _ rfl rfl (hQ8.blk) infoT rfl (trapC_one _ _ _) ?_; intro wz hs_wz ks_wz)
    )
  refine bodyPost_ret (results_ct rfl _ _ q (trapC v2 0 true) (.bool true) _ rfl rfl hs_wz Try.underlying27 rfl infoT) rfl ?_
  refine ⟨by rw [HC.out, HB.out], ?_⟩
  exact K8.then ks_wz fun i hi (e : i = q) => by omega
set_option maxHeartbeats 8000000 in
set_option maxRecDepth 100000 in
theorem rnext_sc (s : VS) (w : World) (hs : s.ok) (v1 v2 : Int) (e1 : firstW (minus (rsetqW s) (s.r 5)) = v1) (e2 : firstW (rsetqW s &&& s.r 5) = v2) (hm : s.m = 1) (ho : v1 < 0) (hr : 0 ≤ v2) (hb1 : bitW (s.r 1) 1 = false) :
    Calls Try.prog 18 #[.agg s.cells] w (nPost (-1) w) := by
  have PN : Aside0 (∀ W, Calls Try.prog 47 #[.agg s.cells] W fun e w' => e = .returned (.int .u64 ((rpendW s : Nat) : Int)) ∧ KpN W w') := ⟨fun W => pend_r s W hs⟩
  have A1 : Aside0 (∀ W, Calls Try.prog 36 #[.int .u64 ((rpendW s : Nat) : Int), .int .u64 (s.r 6 : Int)] W fun e w' => e = .returned (.int .u64 ((rsetqW s : Nat) : Int)) ∧ KpN W w') := ⟨fun W => and_r _ _ W (rpend_ok hs) (hs 6)⟩
  have hn : U (18446744073709551615 - s.r 5) := ⟨by omega⟩
  have A2 : Aside0 (∀ W, Calls Try.prog 36 #[.int .u64 ((rsetqW s : Nat) : Int), .int .u64 ((18446744073709551615 - s.r 5 : Nat) : Int)] W fun e w' => e = .returned (.int .u64 ((minus (rsetqW s) (s.r 5) : Nat) : Int)) ∧ KpN W w') := ⟨fun W => and_r _ _ W (rsetqW_ok hs) hn⟩
  have A3 : Aside0 (∀ W, Calls Try.prog 36 #[.int .u64 ((rsetqW s : Nat) : Int), .int .u64 (s.r 5 : Int)] W fun e w' => e = .returned (.int .u64 ((rsetqW s &&& s.r 5 : Nat) : Int)) ∧ KpN W w') := ⟨fun W => and_r _ _ W (rsetqW_ok hs) (hs 5)⟩
  have F1 : Aside0 (∀ W, Calls Try.prog 48 #[.int .u64 ((minus (rsetqW s) (s.r 5) : Nat) : Int)] W fun e w' => e = .returned (.int .i64 v1) ∧ KpN W w') := ⟨fun W => by rw [← e1]; exact first_r _ W (rsetqW_ok hs).minus⟩
  have F2 : Aside0 (∀ W, Calls Try.prog 48 #[.int .u64 ((rsetqW s &&& s.r 5 : Nat) : Int)] W fun e w' => e = .returned (.int .i64 v2) ∧ KpN W w') := ⟨fun W => by rw [← e2]; exact first_r _ W (rsetqW_ok hs).and⟩
  have en : Go.bits .xor .u64 IntKind.u64.max (s.r 5 : Int) = ((18446744073709551615 - s.r 5 : Nat) : Int) := not_nat _ (hs 5).lt
  generalize 18446744073709551615 - s.r 5 = nk at en A2
  generalize minus (rsetqW s) (s.r 5) = o1 at A2 F1
  generalize rsetqW s &&& s.r 5 = o2 at A3 F2
  generalize rsetqW s = rs at A1 A2 A3
  generalize rpendW s = rp at PN A1
  have I1 : Aside0 (∀ W, Calls Try.prog 26 #[.agg s.cells, .int .i64 1] W fun e w' => e = .returned (.bool false) ∧ KpN W w') := ⟨fun W => by have := is_r s 1 W hs; rw [hb1] at this; exact this⟩
  have t1 : decide (0 ≤ v1) = false := decide_eq_false (by omega)
  have t2 : decide (0 ≤ v2) = true := decide_eq_true (by omega)
  have HC : Aside0 (nC (-1) = trapC 0 0 false) := ⟨nC_no (by omega)⟩
  have HB : Aside0 (decide (0 ≤ (-1 : Int)) = false) := ⟨decide_eq_false (by omega)⟩
  have Hm := Aside0.mk hm
  clear hm e1 e2 hn ho hr hb1
  have HS := Aside0.mk hs
  clear hs
  go_enter Try.func18, Try.ntmps18
  go_wp2_with (first
    | (((with_reducible refine gate_dst (N := 1) rfl ?_); refine bx_ev rfl rfl (N := 1) rfl (s.cells) rfl ?_; intro g hg_g w1 hb_g hk_g; have Hg_g := Aside0.mk hg_g; clear hg_g); have hI1 : St RT w1 g s := St.mk hb_g)
    | (((with_reducible refine gate_dst (N := 2) rfl ?_); refine al_ev rfl rfl (N := 2) rfl _ (zeroT _) ?_; intro q hg_q w2 hb_q hk_q; have Hg_q := Aside0.mk hg_q; clear hg_q); have hI2 := hI1.kp hk_q (fun h => h); have hQ2 := Bk.mk hb_q))
  have hgq : g ≠ q := by have := Hg_q.out; have := hI1.lt; omega
  have hqw : w.heap.size ≤ q := by have := Hg_q.out; have := hk_g.size; omega
  have K2 : KpN w w2 := hk_g.trans hk_q
  clear hI1 hb_g hb_q hk_g hk_q Hg_g Hg_q
  have cQ1 := rg_calls (w := w2) fun W _ => PN.out W
  have cQ2 := rg_calls (w := w2) fun W _ => A1.out W
  have kb : ∀ W, Rg w2 W → W.heap[g]? = some (.cells s.cells 34 (0, 0)) := fun W h => (hI2.kp h.kp (fun h => h)).blk
  have kc := cell_regrown (hI2.c 6)
  refine wp_region_quiet_below (by kernel_rfl) (by kernel_rfl) ?_
  refine wpQuiet_ld (C := Rg w2) (by rfl) rfl g rfl 34 s.cells _ kb rfl rfl rfl ?_
  clear kb
  repeat (quiet_step (first | with_reducible exact cQ1 _ _ | with_reducible exact cQ2 _ _))
  refine wpQuiet_nil ?_
  intro w3 hw3
  replace hw3 : Rg w2 w3 := hw3
  have hI3 := hI2.kp hw3.kp (fun h => h)
  have hQ3 := hQ2.kp hw3.kp (fun h => h)
  have K3 := K2.trans hw3.kp
  have c5 := hI3.c 5
  clear hI2 hQ2 K2 hw3 cQ1 cQ2 kc
  go_wp2_with (first
    | (go_at_call 36; (with_reducible refine (A2.out _).mono ?_); rintro e w4 ⟨rfl, k4⟩)
    | (go_at_call 48; (with_reducible refine (F1.out _).mono ?_); rintro e w5 ⟨rfl, k5⟩; have hI5 := (hI3.kp k4 (fun h => h)).kp k5 (fun h => h); have d5 := hI5.c 5))
  refine (A3.out _).mono ?_
  rintro e w6 ⟨rfl, k6⟩
  go_wp2_with (fail)
  refine (F2.out _).mono ?_
  rintro e w7 ⟨rfl, k7⟩
  have hI7 := (hI5.kp k6 (fun h => h)).kp k7 (fun h => h)
  have hQ7 := (((hQ3.kp k4 (fun h => h)).kp k5 (fun h => h)).kp k6 (fun h => h)).kp k7 (fun h => h)
  have K7 := (((K3.trans k4).trans k5).trans k6).trans k7
  have c0 := hI7.c0
  rw [Hm.out] at c0
  clear hI3 hQ3 K3 c5 k4 k5 k6 k7 hI5 d5 A1 A2 A3 F1 F2 PN en
  go_wp2_with (first
    | ((with_reducible refine gate_dst (N := 50) rfl ?_); refine wpList_in (by rfl) (wp_load_row 34 _ rfl g rfl _ (s.cells) (0, 0) _ (hI7.blk) Try.underlying34 rfl infoR ?_))
    | (go_at_call 26; (with_reducible refine (I1.out _).mono ?_); rintro e w8 ⟨rfl, k8⟩; have hQ8 := hQ7.kp k8 (fun h => h); have K8 := K7.trans k8)
    | ((with_reducible refine gate_store (t := 27) (p := 2) rfl ?_); refine st_ev rfl rfl rfl q (trapC 0 0 false) _ _ rfl rfl (hQ8.blk) infoT rfl (trapC_one _ _ _) ?_; intro wz hs_wz ks_wz)
    )
  refine bodyPost_ret (results_ct rfl _ _ q (trapC 0 0 false) (.bool false) _ rfl rfl hs_wz Try.underlying27 rfl infoT) rfl ?_
  refine ⟨by rw [HC.out, HB.out], ?_⟩
  exact K8.then ks_wz fun i hi (e : i = q) => by omega
set_option maxHeartbeats 8000000 in
set_option maxRecDepth 100000 in
theorem rnext_sd (s : VS) (w : World) (hs : s.ok) (v1 v2 : Int) (e1 : firstW (minus (rsetqW s) (s.r 5)) = v1) (e2 : firstW (rsetqW s &&& s.r 5) = v2) (hm : s.m = 1) (ho : v1 < 0) (hr : v2 < 0) :
    Calls Try.prog 18 #[.agg s.cells] w (nPost (-1) w) := by
  have PN : Aside0 (∀ W, Calls Try.prog 47 #[.agg s.cells] W fun e w' => e = .returned (.int .u64 ((rpendW s : Nat) : Int)) ∧ KpN W w') := ⟨fun W => pend_r s W hs⟩
  have A1 : Aside0 (∀ W, Calls Try.prog 36 #[.int .u64 ((rpendW s : Nat) : Int), .int .u64 (s.r 6 : Int)] W fun e w' => e = .returned (.int .u64 ((rsetqW s : Nat) : Int)) ∧ KpN W w') := ⟨fun W => and_r _ _ W (rpend_ok hs) (hs 6)⟩
  have hn : U (18446744073709551615 - s.r 5) := ⟨by omega⟩
  have A2 : Aside0 (∀ W, Calls Try.prog 36 #[.int .u64 ((rsetqW s : Nat) : Int), .int .u64 ((18446744073709551615 - s.r 5 : Nat) : Int)] W fun e w' => e = .returned (.int .u64 ((minus (rsetqW s) (s.r 5) : Nat) : Int)) ∧ KpN W w') := ⟨fun W => and_r _ _ W (rsetqW_ok hs) hn⟩
  have A3 : Aside0 (∀ W, Calls Try.prog 36 #[.int .u64 ((rsetqW s : Nat) : Int), .int .u64 (s.r 5 : Int)] W fun e w' => e = .returned (.int .u64 ((rsetqW s &&& s.r 5 : Nat) : Int)) ∧ KpN W w') := ⟨fun W => and_r _ _ W (rsetqW_ok hs) (hs 5)⟩
  have F1 : Aside0 (∀ W, Calls Try.prog 48 #[.int .u64 ((minus (rsetqW s) (s.r 5) : Nat) : Int)] W fun e w' => e = .returned (.int .i64 v1) ∧ KpN W w') := ⟨fun W => by rw [← e1]; exact first_r _ W (rsetqW_ok hs).minus⟩
  have F2 : Aside0 (∀ W, Calls Try.prog 48 #[.int .u64 ((rsetqW s &&& s.r 5 : Nat) : Int)] W fun e w' => e = .returned (.int .i64 v2) ∧ KpN W w') := ⟨fun W => by rw [← e2]; exact first_r _ W (rsetqW_ok hs).and⟩
  have en : Go.bits .xor .u64 IntKind.u64.max (s.r 5 : Int) = ((18446744073709551615 - s.r 5 : Nat) : Int) := not_nat _ (hs 5).lt
  generalize 18446744073709551615 - s.r 5 = nk at en A2
  generalize minus (rsetqW s) (s.r 5) = o1 at A2 F1
  generalize rsetqW s &&& s.r 5 = o2 at A3 F2
  generalize rsetqW s = rs at A1 A2 A3
  generalize rpendW s = rp at PN A1
  have t1 : decide (0 ≤ v1) = false := decide_eq_false (by omega)
  have t2 : decide (0 ≤ v2) = false := decide_eq_false (by omega)
  have HC : Aside0 (nC (-1) = trapC 0 0 false) := ⟨nC_no (by omega)⟩
  have HB : Aside0 (decide (0 ≤ (-1 : Int)) = false) := ⟨decide_eq_false (by omega)⟩
  have Hm := Aside0.mk hm
  clear hm e1 e2 hn ho hr
  have HS := Aside0.mk hs
  clear hs
  go_enter Try.func18, Try.ntmps18
  go_wp2_with (first
    | (((with_reducible refine gate_dst (N := 1) rfl ?_); refine bx_ev rfl rfl (N := 1) rfl (s.cells) rfl ?_; intro g hg_g w1 hb_g hk_g; have Hg_g := Aside0.mk hg_g; clear hg_g); have hI1 : St RT w1 g s := St.mk hb_g)
    | (((with_reducible refine gate_dst (N := 2) rfl ?_); refine al_ev rfl rfl (N := 2) rfl _ (zeroT _) ?_; intro q hg_q w2 hb_q hk_q; have Hg_q := Aside0.mk hg_q; clear hg_q); have hI2 := hI1.kp hk_q (fun h => h); have hQ2 := Bk.mk hb_q))
  have hgq : g ≠ q := by have := Hg_q.out; have := hI1.lt; omega
  have hqw : w.heap.size ≤ q := by have := Hg_q.out; have := hk_g.size; omega
  have K2 : KpN w w2 := hk_g.trans hk_q
  clear hI1 hb_g hb_q hk_g hk_q Hg_g Hg_q
  have cQ1 := rg_calls (w := w2) fun W _ => PN.out W
  have cQ2 := rg_calls (w := w2) fun W _ => A1.out W
  have kb : ∀ W, Rg w2 W → W.heap[g]? = some (.cells s.cells 34 (0, 0)) := fun W h => (hI2.kp h.kp (fun h => h)).blk
  have kc := cell_regrown (hI2.c 6)
  refine wp_region_quiet_below (by kernel_rfl) (by kernel_rfl) ?_
  refine wpQuiet_ld (C := Rg w2) (by rfl) rfl g rfl 34 s.cells _ kb rfl rfl rfl ?_
  clear kb
  repeat (quiet_step (first | with_reducible exact cQ1 _ _ | with_reducible exact cQ2 _ _))
  refine wpQuiet_nil ?_
  intro w3 hw3
  replace hw3 : Rg w2 w3 := hw3
  have hI3 := hI2.kp hw3.kp (fun h => h)
  have hQ3 := hQ2.kp hw3.kp (fun h => h)
  have K3 := K2.trans hw3.kp
  have c5 := hI3.c 5
  clear hI2 hQ2 K2 hw3 cQ1 cQ2 kc
  go_wp2_with (first
    | (go_at_call 36; (with_reducible refine (A2.out _).mono ?_); rintro e w4 ⟨rfl, k4⟩)
    | (go_at_call 48; (with_reducible refine (F1.out _).mono ?_); rintro e w5 ⟨rfl, k5⟩; have hI5 := (hI3.kp k4 (fun h => h)).kp k5 (fun h => h); have d5 := hI5.c 5))
  refine (A3.out _).mono ?_
  rintro e w6 ⟨rfl, k6⟩
  go_wp2_with (fail)
  refine (F2.out _).mono ?_
  rintro e w7 ⟨rfl, k7⟩
  have hI7 := (hI5.kp k6 (fun h => h)).kp k7 (fun h => h)
  have hQ7 := (((hQ3.kp k4 (fun h => h)).kp k5 (fun h => h)).kp k6 (fun h => h)).kp k7 (fun h => h)
  have K7 := (((K3.trans k4).trans k5).trans k6).trans k7
  have c0 := hI7.c0
  rw [Hm.out] at c0
  clear hI3 hQ3 K3 c5 k4 k5 k6 k7 hI5 d5 A1 A2 A3 F1 F2 PN en
  go_wp2_with (first
    | ((with_reducible refine gate_store (t := 27) (p := 2) rfl ?_); refine st_ev rfl rfl rfl q (trapC 0 0 false) _ _ rfl rfl (hQ7.blk) infoT rfl (trapC_one _ _ _) ?_; intro wz hs_wz ks_wz)
    )
  refine bodyPost_ret (results_ct rfl _ _ q (trapC 0 0 false) (.bool false) _ rfl rfl hs_wz Try.underlying27 rfl infoT) rfl ?_
  refine ⟨by rw [HC.out, HB.out], ?_⟩
  exact K7.then ks_wz fun i hi (e : i = q) => by omega
set_option maxHeartbeats 8000000 in
set_option maxRecDepth 100000 in
theorem rnext_ma (s : VS) (w : World) (hs : s.ok) (v1 v2 : Int) (e1 : firstW (minus (rsetqW s) (s.r 5)) = v1) (e2 : firstW (rsetqW s &&& s.r 5) = v2) (hm : s.m = 3) (ho : 0 ≤ v1) (hb3 : bitW (s.r 1) 3 = true) :
    Calls Try.prog 18 #[.agg s.cells] w (nPost (v1) w) := by
  have PN : Aside0 (∀ W, Calls Try.prog 47 #[.agg s.cells] W fun e w' => e = .returned (.int .u64 ((rpendW s : Nat) : Int)) ∧ KpN W w') := ⟨fun W => pend_r s W hs⟩
  have A1 : Aside0 (∀ W, Calls Try.prog 36 #[.int .u64 ((rpendW s : Nat) : Int), .int .u64 (s.r 6 : Int)] W fun e w' => e = .returned (.int .u64 ((rsetqW s : Nat) : Int)) ∧ KpN W w') := ⟨fun W => and_r _ _ W (rpend_ok hs) (hs 6)⟩
  have hn : U (18446744073709551615 - s.r 5) := ⟨by omega⟩
  have A2 : Aside0 (∀ W, Calls Try.prog 36 #[.int .u64 ((rsetqW s : Nat) : Int), .int .u64 ((18446744073709551615 - s.r 5 : Nat) : Int)] W fun e w' => e = .returned (.int .u64 ((minus (rsetqW s) (s.r 5) : Nat) : Int)) ∧ KpN W w') := ⟨fun W => and_r _ _ W (rsetqW_ok hs) hn⟩
  have A3 : Aside0 (∀ W, Calls Try.prog 36 #[.int .u64 ((rsetqW s : Nat) : Int), .int .u64 (s.r 5 : Int)] W fun e w' => e = .returned (.int .u64 ((rsetqW s &&& s.r 5 : Nat) : Int)) ∧ KpN W w') := ⟨fun W => and_r _ _ W (rsetqW_ok hs) (hs 5)⟩
  have F1 : Aside0 (∀ W, Calls Try.prog 48 #[.int .u64 ((minus (rsetqW s) (s.r 5) : Nat) : Int)] W fun e w' => e = .returned (.int .i64 v1) ∧ KpN W w') := ⟨fun W => by rw [← e1]; exact first_r _ W (rsetqW_ok hs).minus⟩
  have F2 : Aside0 (∀ W, Calls Try.prog 48 #[.int .u64 ((rsetqW s &&& s.r 5 : Nat) : Int)] W fun e w' => e = .returned (.int .i64 v2) ∧ KpN W w') := ⟨fun W => by rw [← e2]; exact first_r _ W (rsetqW_ok hs).and⟩
  have en : Go.bits .xor .u64 IntKind.u64.max (s.r 5 : Int) = ((18446744073709551615 - s.r 5 : Nat) : Int) := not_nat _ (hs 5).lt
  generalize 18446744073709551615 - s.r 5 = nk at en A2
  generalize minus (rsetqW s) (s.r 5) = o1 at A2 F1
  generalize rsetqW s &&& s.r 5 = o2 at A3 F2
  generalize rsetqW s = rs at A1 A2 A3
  generalize rpendW s = rp at PN A1
  have I3 : Aside0 (∀ W, Calls Try.prog 26 #[.agg s.cells, .int .i64 3] W fun e w' => e = .returned (.bool true) ∧ KpN W w') := ⟨fun W => by have := is_r s 3 W hs; rw [hb3] at this; exact this⟩
  have t1 : decide (0 ≤ v1) = true := decide_eq_true (by omega)
  have HC : Aside0 (nC (v1) = trapC v1 0 true) := ⟨nC_yes (by omega)⟩
  have HB : Aside0 (decide (0 ≤ (v1 : Int)) = true) := ⟨decide_eq_true (by omega)⟩
  have Hm := Aside0.mk hm
  clear hm e1 e2 hn ho hb3
  have HS := Aside0.mk hs
  clear hs
  go_enter Try.func18, Try.ntmps18
  go_wp2_with (first
    | (((with_reducible refine gate_dst (N := 1) rfl ?_); refine bx_ev rfl rfl (N := 1) rfl (s.cells) rfl ?_; intro g hg_g w1 hb_g hk_g; have Hg_g := Aside0.mk hg_g; clear hg_g); have hI1 : St RT w1 g s := St.mk hb_g)
    | (((with_reducible refine gate_dst (N := 2) rfl ?_); refine al_ev rfl rfl (N := 2) rfl _ (zeroT _) ?_; intro q hg_q w2 hb_q hk_q; have Hg_q := Aside0.mk hg_q; clear hg_q); have hI2 := hI1.kp hk_q (fun h => h); have hQ2 := Bk.mk hb_q))
  have hgq : g ≠ q := by have := Hg_q.out; have := hI1.lt; omega
  have hqw : w.heap.size ≤ q := by have := Hg_q.out; have := hk_g.size; omega
  have K2 : KpN w w2 := hk_g.trans hk_q
  clear hI1 hb_g hb_q hk_g hk_q Hg_g Hg_q
  have cQ1 := rg_calls (w := w2) fun W _ => PN.out W
  have cQ2 := rg_calls (w := w2) fun W _ => A1.out W
  have kb : ∀ W, Rg w2 W → W.heap[g]? = some (.cells s.cells 34 (0, 0)) := fun W h => (hI2.kp h.kp (fun h => h)).blk
  have kc := cell_regrown (hI2.c 6)
  refine wp_region_quiet_below (by kernel_rfl) (by kernel_rfl) ?_
  refine wpQuiet_ld (C := Rg w2) (by rfl) rfl g rfl 34 s.cells _ kb rfl rfl rfl ?_
  clear kb
  repeat (quiet_step (first | with_reducible exact cQ1 _ _ | with_reducible exact cQ2 _ _))
  refine wpQuiet_nil ?_
  intro w3 hw3
  replace hw3 : Rg w2 w3 := hw3
  have hI3 := hI2.kp hw3.kp (fun h => h)
  have hQ3 := hQ2.kp hw3.kp (fun h => h)
  have K3 := K2.trans hw3.kp
  have c5 := hI3.c 5
  clear hI2 hQ2 K2 hw3 cQ1 cQ2 kc
  go_wp2_with (first
    | (go_at_call 36; (with_reducible refine (A2.out _).mono ?_); rintro e w4 ⟨rfl, k4⟩)
    | (go_at_call 48; (with_reducible refine (F1.out _).mono ?_); rintro e w5 ⟨rfl, k5⟩; have hI5 := (hI3.kp k4 (fun h => h)).kp k5 (fun h => h); have d5 := hI5.c 5))
  refine (A3.out _).mono ?_
  rintro e w6 ⟨rfl, k6⟩
  go_wp2_with (fail)
  refine (F2.out _).mono ?_
  rintro e w7 ⟨rfl, k7⟩
  have hI7 := (hI5.kp k6 (fun h => h)).kp k7 (fun h => h)
  have hQ7 := (((hQ3.kp k4 (fun h => h)).kp k5 (fun h => h)).kp k6 (fun h => h)).kp k7 (fun h => h)
  have K7 := (((K3.trans k4).trans k5).trans k6).trans k7
  have c0 := hI7.c0
  rw [Hm.out] at c0
  clear hI3 hQ3 K3 c5 k4 k5 k6 k7 hI5 d5 A1 A2 A3 F1 F2 PN en
  go_wp2_with (first
    | ((with_reducible refine gate_dst (N := 33) rfl ?_); refine wpList_in (by rfl) (wp_load_row 34 _ rfl g rfl _ (s.cells) (0, 0) _ (hI7.blk) Try.underlying34 rfl infoR ?_))
    | (go_at_call 26; (with_reducible refine (I3.out _).mono ?_); rintro e w8 ⟨rfl, k8⟩; have hI8 := hI7.kp k8 (fun h => h); have hQ8 := hQ7.kp k8 (fun h => h); have K8 := K7.trans k8; have d0 := hI8.c0; rw [Hm.out] at d0)
    | ((with_reducible refine gate_store (t := 27) (p := 2) rfl ?_); refine st_ev rfl rfl rfl q (trapC v1 0 true) _ _ rfl rfl (hQ8.blk) infoT rfl (trapC_one _ _ _) ?_; intro wz hs_wz ks_wz)
    )
  refine bodyPost_ret (results_ct rfl _ _ q (trapC v1 0 true) (.bool true) _ rfl rfl hs_wz Try.underlying27 rfl infoT) rfl ?_
  refine ⟨by rw [HC.out, HB.out], ?_⟩
  exact K8.then ks_wz fun i hi (e : i = q) => by omega
set_option maxHeartbeats 8000000 in
set_option maxRecDepth 100000 in
theorem rnext_mb (s : VS) (w : World) (hs : s.ok) (v1 v2 : Int) (e1 : firstW (minus (rsetqW s) (s.r 5)) = v1) (e2 : firstW (rsetqW s &&& s.r 5) = v2) (hm : s.m = 3) (ho : 0 ≤ v1) (hr : 0 ≤ v2) (hb3 : bitW (s.r 1) 3 = false) :
    Calls Try.prog 18 #[.agg s.cells] w (nPost (-1) w) := by
  have PN : Aside0 (∀ W, Calls Try.prog 47 #[.agg s.cells] W fun e w' => e = .returned (.int .u64 ((rpendW s : Nat) : Int)) ∧ KpN W w') := ⟨fun W => pend_r s W hs⟩
  have A1 : Aside0 (∀ W, Calls Try.prog 36 #[.int .u64 ((rpendW s : Nat) : Int), .int .u64 (s.r 6 : Int)] W fun e w' => e = .returned (.int .u64 ((rsetqW s : Nat) : Int)) ∧ KpN W w') := ⟨fun W => and_r _ _ W (rpend_ok hs) (hs 6)⟩
  have hn : U (18446744073709551615 - s.r 5) := ⟨by omega⟩
  have A2 : Aside0 (∀ W, Calls Try.prog 36 #[.int .u64 ((rsetqW s : Nat) : Int), .int .u64 ((18446744073709551615 - s.r 5 : Nat) : Int)] W fun e w' => e = .returned (.int .u64 ((minus (rsetqW s) (s.r 5) : Nat) : Int)) ∧ KpN W w') := ⟨fun W => and_r _ _ W (rsetqW_ok hs) hn⟩
  have A3 : Aside0 (∀ W, Calls Try.prog 36 #[.int .u64 ((rsetqW s : Nat) : Int), .int .u64 (s.r 5 : Int)] W fun e w' => e = .returned (.int .u64 ((rsetqW s &&& s.r 5 : Nat) : Int)) ∧ KpN W w') := ⟨fun W => and_r _ _ W (rsetqW_ok hs) (hs 5)⟩
  have F1 : Aside0 (∀ W, Calls Try.prog 48 #[.int .u64 ((minus (rsetqW s) (s.r 5) : Nat) : Int)] W fun e w' => e = .returned (.int .i64 v1) ∧ KpN W w') := ⟨fun W => by rw [← e1]; exact first_r _ W (rsetqW_ok hs).minus⟩
  have F2 : Aside0 (∀ W, Calls Try.prog 48 #[.int .u64 ((rsetqW s &&& s.r 5 : Nat) : Int)] W fun e w' => e = .returned (.int .i64 v2) ∧ KpN W w') := ⟨fun W => by rw [← e2]; exact first_r _ W (rsetqW_ok hs).and⟩
  have en : Go.bits .xor .u64 IntKind.u64.max (s.r 5 : Int) = ((18446744073709551615 - s.r 5 : Nat) : Int) := not_nat _ (hs 5).lt
  generalize 18446744073709551615 - s.r 5 = nk at en A2
  generalize minus (rsetqW s) (s.r 5) = o1 at A2 F1
  generalize rsetqW s &&& s.r 5 = o2 at A3 F2
  generalize rsetqW s = rs at A1 A2 A3
  generalize rpendW s = rp at PN A1
  have I3 : Aside0 (∀ W, Calls Try.prog 26 #[.agg s.cells, .int .i64 3] W fun e w' => e = .returned (.bool false) ∧ KpN W w') := ⟨fun W => by have := is_r s 3 W hs; rw [hb3] at this; exact this⟩
  have t1 : decide (0 ≤ v1) = true := decide_eq_true (by omega)
  have t2 : decide (0 ≤ v2) = true := decide_eq_true (by omega)
  have HC : Aside0 (nC (-1) = trapC 0 0 false) := ⟨nC_no (by omega)⟩
  have HB : Aside0 (decide (0 ≤ (-1 : Int)) = false) := ⟨decide_eq_false (by omega)⟩
  have Hm := Aside0.mk hm
  clear hm e1 e2 hn ho hr hb3
  have HS := Aside0.mk hs
  clear hs
  go_enter Try.func18, Try.ntmps18
  go_wp2_with (first
    | (((with_reducible refine gate_dst (N := 1) rfl ?_); refine bx_ev rfl rfl (N := 1) rfl (s.cells) rfl ?_; intro g hg_g w1 hb_g hk_g; have Hg_g := Aside0.mk hg_g; clear hg_g); have hI1 : St RT w1 g s := St.mk hb_g)
    | (((with_reducible refine gate_dst (N := 2) rfl ?_); refine al_ev rfl rfl (N := 2) rfl _ (zeroT _) ?_; intro q hg_q w2 hb_q hk_q; have Hg_q := Aside0.mk hg_q; clear hg_q); have hI2 := hI1.kp hk_q (fun h => h); have hQ2 := Bk.mk hb_q))
  have hgq : g ≠ q := by have := Hg_q.out; have := hI1.lt; omega
  have hqw : w.heap.size ≤ q := by have := Hg_q.out; have := hk_g.size; omega
  have K2 : KpN w w2 := hk_g.trans hk_q
  clear hI1 hb_g hb_q hk_g hk_q Hg_g Hg_q
  have cQ1 := rg_calls (w := w2) fun W _ => PN.out W
  have cQ2 := rg_calls (w := w2) fun W _ => A1.out W
  have kb : ∀ W, Rg w2 W → W.heap[g]? = some (.cells s.cells 34 (0, 0)) := fun W h => (hI2.kp h.kp (fun h => h)).blk
  have kc := cell_regrown (hI2.c 6)
  refine wp_region_quiet_below (by kernel_rfl) (by kernel_rfl) ?_
  refine wpQuiet_ld (C := Rg w2) (by rfl) rfl g rfl 34 s.cells _ kb rfl rfl rfl ?_
  clear kb
  repeat (quiet_step (first | with_reducible exact cQ1 _ _ | with_reducible exact cQ2 _ _))
  refine wpQuiet_nil ?_
  intro w3 hw3
  replace hw3 : Rg w2 w3 := hw3
  have hI3 := hI2.kp hw3.kp (fun h => h)
  have hQ3 := hQ2.kp hw3.kp (fun h => h)
  have K3 := K2.trans hw3.kp
  have c5 := hI3.c 5
  clear hI2 hQ2 K2 hw3 cQ1 cQ2 kc
  go_wp2_with (first
    | (go_at_call 36; (with_reducible refine (A2.out _).mono ?_); rintro e w4 ⟨rfl, k4⟩)
    | (go_at_call 48; (with_reducible refine (F1.out _).mono ?_); rintro e w5 ⟨rfl, k5⟩; have hI5 := (hI3.kp k4 (fun h => h)).kp k5 (fun h => h); have d5 := hI5.c 5))
  refine (A3.out _).mono ?_
  rintro e w6 ⟨rfl, k6⟩
  go_wp2_with (fail)
  refine (F2.out _).mono ?_
  rintro e w7 ⟨rfl, k7⟩
  have hI7 := (hI5.kp k6 (fun h => h)).kp k7 (fun h => h)
  have hQ7 := (((hQ3.kp k4 (fun h => h)).kp k5 (fun h => h)).kp k6 (fun h => h)).kp k7 (fun h => h)
  have K7 := (((K3.trans k4).trans k5).trans k6).trans k7
  have c0 := hI7.c0
  rw [Hm.out] at c0
  clear hI3 hQ3 K3 c5 k4 k5 k6 k7 hI5 d5 A1 A2 A3 F1 F2 PN en
  go_wp2_with (first
    | ((with_reducible refine gate_dst (N := 33) rfl ?_); refine wpList_in (by rfl) (wp_load_row 34 _ rfl g rfl _ (s.cells) (0, 0) _ (hI7.blk) Try.underlying34 rfl infoR ?_))
    | (go_at_call 26; (with_reducible refine (I3.out _).mono ?_); rintro e w8 ⟨rfl, k8⟩; have hI8 := hI7.kp k8 (fun h => h); have hQ8 := hQ7.kp k8 (fun h => h); have K8 := K7.trans k8; have d0 := hI8.c0; rw [Hm.out] at d0)
    | ((with_reducible refine gate_store (t := 27) (p := 2) rfl ?_); refine st_ev rfl rfl rfl q (trapC 0 0 false) _ _ rfl rfl (hQ8.blk) infoT rfl (trapC_one _ _ _) ?_; intro wz hs_wz ks_wz)
    )
  refine bodyPost_ret (results_ct rfl _ _ q (trapC 0 0 false) (.bool false) _ rfl rfl hs_wz Try.underlying27 rfl infoT) rfl ?_
  refine ⟨by rw [HC.out, HB.out], ?_⟩
  exact K8.then ks_wz fun i hi (e : i = q) => by omega
set_option maxHeartbeats 8000000 in
set_option maxRecDepth 100000 in
theorem rnext_mc (s : VS) (w : World) (hs : s.ok) (v1 v2 : Int) (e1 : firstW (minus (rsetqW s) (s.r 5)) = v1) (e2 : firstW (rsetqW s &&& s.r 5) = v2) (hm : s.m = 3) (ho : 0 ≤ v1) (hr : v2 < 0) (hb3 : bitW (s.r 1) 3 = false) :
    Calls Try.prog 18 #[.agg s.cells] w (nPost (-1) w) := by
  have PN : Aside0 (∀ W, Calls Try.prog 47 #[.agg s.cells] W fun e w' => e = .returned (.int .u64 ((rpendW s : Nat) : Int)) ∧ KpN W w') := ⟨fun W => pend_r s W hs⟩
  have A1 : Aside0 (∀ W, Calls Try.prog 36 #[.int .u64 ((rpendW s : Nat) : Int), .int .u64 (s.r 6 : Int)] W fun e w' => e = .returned (.int .u64 ((rsetqW s : Nat) : Int)) ∧ KpN W w') := ⟨fun W => and_r _ _ W (rpend_ok hs) (hs 6)⟩
  have hn : U (18446744073709551615 - s.r 5) := ⟨by omega⟩
  have A2 : Aside0 (∀ W, Calls Try.prog 36 #[.int .u64 ((rsetqW s : Nat) : Int), .int .u64 ((18446744073709551615 - s.r 5 : Nat) : Int)] W fun e w' => e = .returned (.int .u64 ((minus (rsetqW s) (s.r 5) : Nat) : Int)) ∧ KpN W w') := ⟨fun W => and_r _ _ W (rsetqW_ok hs) hn⟩
  have A3 : Aside0 (∀ W, Calls Try.prog 36 #[.int .u64 ((rsetqW s : Nat) : Int), .int .u64 (s.r 5 : Int)] W fun e w' => e = .returned (.int .u64 ((rsetqW s &&& s.r 5 : Nat) : Int)) ∧ KpN W w') := ⟨fun W => and_r _ _ W (rsetqW_ok hs) (hs 5)⟩
  have F1 : Aside0 (∀ W, Calls Try.prog 48 #[.int .u64 ((minus (rsetqW s) (s.r 5) : Nat) : Int)] W fun e w' => e = .returned (.int .i64 v1) ∧ KpN W w') := ⟨fun W => by rw [← e1]; exact first_r _ W (rsetqW_ok hs).minus⟩
  have F2 : Aside0 (∀ W, Calls Try.prog 48 #[.int .u64 ((rsetqW s &&& s.r 5 : Nat) : Int)] W fun e w' => e = .returned (.int .i64 v2) ∧ KpN W w') := ⟨fun W => by rw [← e2]; exact first_r _ W (rsetqW_ok hs).and⟩
  have en : Go.bits .xor .u64 IntKind.u64.max (s.r 5 : Int) = ((18446744073709551615 - s.r 5 : Nat) : Int) := not_nat _ (hs 5).lt
  generalize 18446744073709551615 - s.r 5 = nk at en A2
  generalize minus (rsetqW s) (s.r 5) = o1 at A2 F1
  generalize rsetqW s &&& s.r 5 = o2 at A3 F2
  generalize rsetqW s = rs at A1 A2 A3
  generalize rpendW s = rp at PN A1
  have I3 : Aside0 (∀ W, Calls Try.prog 26 #[.agg s.cells, .int .i64 3] W fun e w' => e = .returned (.bool false) ∧ KpN W w') := ⟨fun W => by have := is_r s 3 W hs; rw [hb3] at this; exact this⟩
  have t1 : decide (0 ≤ v1) = true := decide_eq_true (by omega)
  have t2 : decide (0 ≤ v2) = false := decide_eq_false (by omega)
  have HC : Aside0 (nC (-1) = trapC 0 0 false) := ⟨nC_no (by omega)⟩
  have HB : Aside0 (decide (0 ≤ (-1 : Int)) = false) := ⟨decide_eq_false (by omega)⟩
  have Hm := Aside0.mk hm
  clear hm e1 e2 hn ho hr hb3
  have HS := Aside0.mk hs
  clear hs
  go_enter Try.func18, Try.ntmps18
  go_wp2_with (first
    | (((with_reducible refine gate_dst (N := 1) rfl ?_); refine bx_ev rfl rfl (N := 1) rfl (s.cells) rfl ?_; intro g hg_g w1 hb_g hk_g; have Hg_g := Aside0.mk hg_g; clear hg_g); have hI1 : St RT w1 g s := St.mk hb_g)
    | (((with_reducible refine gate_dst (N := 2) rfl ?_); refine al_ev rfl rfl (N := 2) rfl _ (zeroT _) ?_; intro q hg_q w2 hb_q hk_q; have Hg_q := Aside0.mk hg_q; clear hg_q); have hI2 := hI1.kp hk_q (fun h => h); have hQ2 := Bk.mk hb_q))
  have hgq : g ≠ q := by have := Hg_q.out; have := hI1.lt; omega
  have hqw : w.heap.size ≤ q := by have := Hg_q.out; have := hk_g.size; omega
  have K2 : KpN w w2 := hk_g.trans hk_q
  clear hI1 hb_g hb_q hk_g hk_q Hg_g Hg_q
  have cQ1 := rg_calls (w := w2) fun W _ => PN.out W
  have cQ2 := rg_calls (w := w2) fun W _ => A1.out W
  have kb : ∀ W, Rg w2 W → W.heap[g]? = some (.cells s.cells 34 (0, 0)) := fun W h => (hI2.kp h.kp (fun h => h)).blk
  have kc := cell_regrown (hI2.c 6)
  refine wp_region_quiet_below (by kernel_rfl) (by kernel_rfl) ?_
  refine wpQuiet_ld (C := Rg w2) (by rfl) rfl g rfl 34 s.cells _ kb rfl rfl rfl ?_
  clear kb
  repeat (quiet_step (first | with_reducible exact cQ1 _ _ | with_reducible exact cQ2 _ _))
  refine wpQuiet_nil ?_
  intro w3 hw3
  replace hw3 : Rg w2 w3 := hw3
  have hI3 := hI2.kp hw3.kp (fun h => h)
  have hQ3 := hQ2.kp hw3.kp (fun h => h)
  have K3 := K2.trans hw3.kp
  have c5 := hI3.c 5
  clear hI2 hQ2 K2 hw3 cQ1 cQ2 kc
  go_wp2_with (first
    | (go_at_call 36; (with_reducible refine (A2.out _).mono ?_); rintro e w4 ⟨rfl, k4⟩)
    | (go_at_call 48; (with_reducible refine (F1.out _).mono ?_); rintro e w5 ⟨rfl, k5⟩; have hI5 := (hI3.kp k4 (fun h => h)).kp k5 (fun h => h); have d5 := hI5.c 5))
  refine (A3.out _).mono ?_
  rintro e w6 ⟨rfl, k6⟩
  go_wp2_with (fail)
  refine (F2.out _).mono ?_
  rintro e w7 ⟨rfl, k7⟩
  have hI7 := (hI5.kp k6 (fun h => h)).kp k7 (fun h => h)
  have hQ7 := (((hQ3.kp k4 (fun h => h)).kp k5 (fun h => h)).kp k6 (fun h => h)).kp k7 (fun h => h)
  have K7 := (((K3.trans k4).trans k5).trans k6).trans k7
  have c0 := hI7.c0
  rw [Hm.out] at c0
  clear hI3 hQ3 K3 c5 k4 k5 k6 k7 hI5 d5 A1 A2 A3 F1 F2 PN en
  go_wp2_with (first
    | ((with_reducible refine gate_dst (N := 33) rfl ?_); refine wpList_in (by rfl) (wp_load_row 34 _ rfl g rfl _ (s.cells) (0, 0) _ (hI7.blk) Try.underlying34 rfl infoR ?_))
    | (go_at_call 26; (with_reducible refine (I3.out _).mono ?_); rintro e w8 ⟨rfl, k8⟩; have hI8 := hI7.kp k8 (fun h => h); have hQ8 := hQ7.kp k8 (fun h => h); have K8 := K7.trans k8; have d0 := hI8.c0; rw [Hm.out] at d0)
    | ((with_reducible refine gate_store (t := 27) (p := 2) rfl ?_); refine st_ev rfl rfl rfl q (trapC 0 0 false) _ _ rfl rfl (hQ8.blk) infoT rfl (trapC_one _ _ _) ?_; intro wz hs_wz ks_wz)
    )
  refine bodyPost_ret (results_ct rfl _ _ q (trapC 0 0 false) (.bool false) _ rfl rfl hs_wz Try.underlying27 rfl infoT) rfl ?_
  refine ⟨by rw [HC.out, HB.out], ?_⟩
  exact K8.then ks_wz fun i hi (e : i = q) => by omega
set_option maxHeartbeats 8000000 in
set_option maxRecDepth 100000 in
theorem rnext_md (s : VS) (w : World) (hs : s.ok) (v1 v2 : Int) (e1 : firstW (minus (rsetqW s) (s.r 5)) = v1) (e2 : firstW (rsetqW s &&& s.r 5) = v2) (hm : s.m = 3) (ho : v1 < 0) (hr : 0 ≤ v2) :
    Calls Try.prog 18 #[.agg s.cells] w (nPost (-1) w) := by
  have PN : Aside0 (∀ W, Calls Try.prog 47 #[.agg s.cells] W fun e w' => e = .returned (.int .u64 ((rpendW s : Nat) : Int)) ∧ KpN W w') := ⟨fun W => pend_r s W hs⟩
  have A1 : Aside0 (∀ W, Calls Try.prog 36 #[.int .u64 ((rpendW s : Nat) : Int), .int .u64 (s.r 6 : Int)] W fun e w' => e = .returned (.int .u64 ((rsetqW s : Nat) : Int)) ∧ KpN W w') := ⟨fun W => and_r _ _ W (rpend_ok hs) (hs 6)⟩
  have hn : U (18446744073709551615 - s.r 5) := ⟨by omega⟩
  have A2 : Aside0 (∀ W, Calls Try.prog 36 #[.int .u64 ((rsetqW s : Nat) : Int), .int .u64 ((18446744073709551615 - s.r 5 : Nat) : Int)] W fun e w' => e = .returned (.int .u64 ((minus (rsetqW s) (s.r 5) : Nat) : Int)) ∧ KpN W w') := ⟨fun W => and_r _ _ W (rsetqW_ok hs) hn⟩
  have A3 : Aside0 (∀ W, Calls Try.prog 36 #[.int .u64 ((rsetqW s : Nat) : Int), .int .u64 (s.r 5 : Int)] W fun e w' => e = .returned (.int .u64 ((rsetqW s &&& s.r 5 : Nat) : Int)) ∧ KpN W w') := ⟨fun W => and_r _ _ W (rsetqW_ok hs) (hs 5)⟩
  have F1 : Aside0 (∀ W, Calls Try.prog 48 #[.int .u64 ((minus (rsetqW s) (s.r 5) : Nat) : Int)] W fun e w' => e = .returned (.int .i64 v1) ∧ KpN W w') := ⟨fun W => by rw [← e1]; exact first_r _ W (rsetqW_ok hs).minus⟩
  have F2 : Aside0 (∀ W, Calls Try.prog 48 #[.int .u64 ((rsetqW s &&& s.r 5 : Nat) : Int)] W fun e w' => e = .returned (.int .i64 v2) ∧ KpN W w') := ⟨fun W => by rw [← e2]; exact first_r _ W (rsetqW_ok hs).and⟩
  have en : Go.bits .xor .u64 IntKind.u64.max (s.r 5 : Int) = ((18446744073709551615 - s.r 5 : Nat) : Int) := not_nat _ (hs 5).lt
  generalize 18446744073709551615 - s.r 5 = nk at en A2
  generalize minus (rsetqW s) (s.r 5) = o1 at A2 F1
  generalize rsetqW s &&& s.r 5 = o2 at A3 F2
  generalize rsetqW s = rs at A1 A2 A3
  generalize rpendW s = rp at PN A1
  have t1 : decide (0 ≤ v1) = false := decide_eq_false (by omega)
  have t2 : decide (0 ≤ v2) = true := decide_eq_true (by omega)
  have HC : Aside0 (nC (-1) = trapC 0 0 false) := ⟨nC_no (by omega)⟩
  have HB : Aside0 (decide (0 ≤ (-1 : Int)) = false) := ⟨decide_eq_false (by omega)⟩
  have Hm := Aside0.mk hm
  clear hm e1 e2 hn ho hr
  have HS := Aside0.mk hs
  clear hs
  go_enter Try.func18, Try.ntmps18
  go_wp2_with (first
    | (((with_reducible refine gate_dst (N := 1) rfl ?_); refine bx_ev rfl rfl (N := 1) rfl (s.cells) rfl ?_; intro g hg_g w1 hb_g hk_g; have Hg_g := Aside0.mk hg_g; clear hg_g); have hI1 : St RT w1 g s := St.mk hb_g)
    | (((with_reducible refine gate_dst (N := 2) rfl ?_); refine al_ev rfl rfl (N := 2) rfl _ (zeroT _) ?_; intro q hg_q w2 hb_q hk_q; have Hg_q := Aside0.mk hg_q; clear hg_q); have hI2 := hI1.kp hk_q (fun h => h); have hQ2 := Bk.mk hb_q))
  have hgq : g ≠ q := by have := Hg_q.out; have := hI1.lt; omega
  have hqw : w.heap.size ≤ q := by have := Hg_q.out; have := hk_g.size; omega
  have K2 : KpN w w2 := hk_g.trans hk_q
  clear hI1 hb_g hb_q hk_g hk_q Hg_g Hg_q
  have cQ1 := rg_calls (w := w2) fun W _ => PN.out W
  have cQ2 := rg_calls (w := w2) fun W _ => A1.out W
  have kb : ∀ W, Rg w2 W → W.heap[g]? = some (.cells s.cells 34 (0, 0)) := fun W h => (hI2.kp h.kp (fun h => h)).blk
  have kc := cell_regrown (hI2.c 6)
  refine wp_region_quiet_below (by kernel_rfl) (by kernel_rfl) ?_
  refine wpQuiet_ld (C := Rg w2) (by rfl) rfl g rfl 34 s.cells _ kb rfl rfl rfl ?_
  clear kb
  repeat (quiet_step (first | with_reducible exact cQ1 _ _ | with_reducible exact cQ2 _ _))
  refine wpQuiet_nil ?_
  intro w3 hw3
  replace hw3 : Rg w2 w3 := hw3
  have hI3 := hI2.kp hw3.kp (fun h => h)
  have hQ3 := hQ2.kp hw3.kp (fun h => h)
  have K3 := K2.trans hw3.kp
  have c5 := hI3.c 5
  clear hI2 hQ2 K2 hw3 cQ1 cQ2 kc
  go_wp2_with (first
    | (go_at_call 36; (with_reducible refine (A2.out _).mono ?_); rintro e w4 ⟨rfl, k4⟩)
    | (go_at_call 48; (with_reducible refine (F1.out _).mono ?_); rintro e w5 ⟨rfl, k5⟩; have hI5 := (hI3.kp k4 (fun h => h)).kp k5 (fun h => h); have d5 := hI5.c 5))
  refine (A3.out _).mono ?_
  rintro e w6 ⟨rfl, k6⟩
  go_wp2_with (fail)
  refine (F2.out _).mono ?_
  rintro e w7 ⟨rfl, k7⟩
  have hI7 := (hI5.kp k6 (fun h => h)).kp k7 (fun h => h)
  have hQ7 := (((hQ3.kp k4 (fun h => h)).kp k5 (fun h => h)).kp k6 (fun h => h)).kp k7 (fun h => h)
  have K7 := (((K3.trans k4).trans k5).trans k6).trans k7
  have c0 := hI7.c0
  rw [Hm.out] at c0
  clear hI3 hQ3 K3 c5 k4 k5 k6 k7 hI5 d5 A1 A2 A3 F1 F2 PN en
  go_wp2_with (first
    | ((with_reducible refine gate_store (t := 27) (p := 2) rfl ?_); refine st_ev rfl rfl rfl q (trapC 0 0 false) _ _ rfl rfl (hQ7.blk) infoT rfl (trapC_one _ _ _) ?_; intro wz hs_wz ks_wz)
    )
  refine bodyPost_ret (results_ct rfl _ _ q (trapC 0 0 false) (.bool false) _ rfl rfl hs_wz Try.underlying27 rfl infoT) rfl ?_
  refine ⟨by rw [HC.out, HB.out], ?_⟩
  exact K7.then ks_wz fun i hi (e : i = q) => by omega
set_option maxHeartbeats 8000000 in
set_option maxRecDepth 100000 in
theorem rnext_me (s : VS) (w : World) (hs : s.ok) (v1 v2 : Int) (e1 : firstW (minus (rsetqW s) (s.r 5)) = v1) (e2 : firstW (rsetqW s &&& s.r 5) = v2) (hm : s.m = 3) (ho : v1 < 0) (hr : v2 < 0) :
    Calls Try.prog 18 #[.agg s.cells] w (nPost (-1) w) := by
  have PN : Aside0 (∀ W, Calls Try.prog 47 #[.agg s.cells] W fun e w' => e = .returned (.int .u64 ((rpendW s : Nat) : Int)) ∧ KpN W w') := ⟨fun W => pend_r s W hs⟩
  have A1 : Aside0 (∀ W, Calls Try.prog 36 #[.int .u64 ((rpendW s : Nat) : Int), .int .u64 (s.r 6 : Int)] W fun e w' => e = .returned (.int .u64 ((rsetqW s : Nat) : Int)) ∧ KpN W w') := ⟨fun W => and_r _ _ W (rpend_ok hs) (hs 6)⟩
  have hn : U (18446744073709551615 - s.r 5) := ⟨by omega⟩
  have A2 : Aside0 (∀ W, Calls Try.prog 36 #[.int .u64 ((rsetqW s : Nat) : Int), .int .u64 ((18446744073709551615 - s.r 5 : Nat) : Int)] W fun e w' => e = .returned (.int .u64 ((minus (rsetqW s) (s.r 5) : Nat) : Int)) ∧ KpN W w') := ⟨fun W => and_r _ _ W (rsetqW_ok hs) hn⟩
  have A3 : Aside0 (∀ W, Calls Try.prog 36 #[.int .u64 ((rsetqW s : Nat) : Int), .int .u64 (s.r 5 : Int)] W fun e w' => e = .returned (.int .u64 ((rsetqW s &&& s.r 5 : Nat) : Int)) ∧ KpN W w') := ⟨fun W => and_r _ _ W (rsetqW_ok hs) (hs 5)⟩
  have F1 : Aside0 (∀ W, Calls Try.prog 48 #[.int .u64 ((minus (rsetqW s) (s.r 5) : Nat) : Int)] W fun e w' => e = .returned (.int .i64 v1) ∧ KpN W w') := ⟨fun W => by rw [← e1]; exact first_r _ W (rsetqW_ok hs).minus⟩
  have F2 : Aside0 (∀ W, Calls Try.prog 48 #[.int .u64 ((rsetqW s &&& s.r 5 : Nat) : Int)] W fun e w' => e = .returned (.int .i64 v2) ∧ KpN W w') := ⟨fun W => by rw [← e2]; exact first_r _ W (rsetqW_ok hs).and⟩
  have en : Go.bits .xor .u64 IntKind.u64.max (s.r 5 : Int) = ((18446744073709551615 - s.r 5 : Nat) : Int) := not_nat _ (hs 5).lt
  generalize 18446744073709551615 - s.r 5 = nk at en A2
  generalize minus (rsetqW s) (s.r 5) = o1 at A2 F1
  generalize rsetqW s &&& s.r 5 = o2 at A3 F2
  generalize rsetqW s = rs at A1 A2 A3
  generalize rpendW s = rp at PN A1
  have t1 : decide (0 ≤ v1) = false := decide_eq_false (by omega)
  have t2 : decide (0 ≤ v2) = false := decide_eq_false (by omega)
  have HC : Aside0 (nC (-1) = trapC 0 0 false) := ⟨nC_no (by omega)⟩
  have HB : Aside0 (decide (0 ≤ (-1 : Int)) = false) := ⟨decide_eq_false (by omega)⟩
  have Hm := Aside0.mk hm
  clear hm e1 e2 hn ho hr
  have HS := Aside0.mk hs
  clear hs
  go_enter Try.func18, Try.ntmps18
  go_wp2_with (first
    | (((with_reducible refine gate_dst (N := 1) rfl ?_); refine bx_ev rfl rfl (N := 1) rfl (s.cells) rfl ?_; intro g hg_g w1 hb_g hk_g; have Hg_g := Aside0.mk hg_g; clear hg_g); have hI1 : St RT w1 g s := St.mk hb_g)
    | (((with_reducible refine gate_dst (N := 2) rfl ?_); refine al_ev rfl rfl (N := 2) rfl _ (zeroT _) ?_; intro q hg_q w2 hb_q hk_q; have Hg_q := Aside0.mk hg_q; clear hg_q); have hI2 := hI1.kp hk_q (fun h => h); have hQ2 := Bk.mk hb_q))
  have hgq : g ≠ q := by have := Hg_q.out; have := hI1.lt; omega
  have hqw : w.heap.size ≤ q := by have := Hg_q.out; have := hk_g.size; omega
  have K2 : KpN w w2 := hk_g.trans hk_q
  clear hI1 hb_g hb_q hk_g hk_q Hg_g Hg_q
  have cQ1 := rg_calls (w := w2) fun W _ => PN.out W
  have cQ2 := rg_calls (w := w2) fun W _ => A1.out W
  have kb : ∀ W, Rg w2 W → W.heap[g]? = some (.cells s.cells 34 (0, 0)) := fun W h => (hI2.kp h.kp (fun h => h)).blk
  have kc := cell_regrown (hI2.c 6)
  refine wp_region_quiet_below (by kernel_rfl) (by kernel_rfl) ?_
  refine wpQuiet_ld (C := Rg w2) (by rfl) rfl g rfl 34 s.cells _ kb rfl rfl rfl ?_
  clear kb
  repeat (quiet_step (first | with_reducible exact cQ1 _ _ | with_reducible exact cQ2 _ _))
  refine wpQuiet_nil ?_
  intro w3 hw3
  replace hw3 : Rg w2 w3 := hw3
  have hI3 := hI2.kp hw3.kp (fun h => h)
  have hQ3 := hQ2.kp hw3.kp (fun h => h)
  have K3 := K2.trans hw3.kp
  have c5 := hI3.c 5
  clear hI2 hQ2 K2 hw3 cQ1 cQ2 kc
  go_wp2_with (first
    | (go_at_call 36; (with_reducible refine (A2.out _).mono ?_); rintro e w4 ⟨rfl, k4⟩)
    | (go_at_call 48; (with_reducible refine (F1.out _).mono ?_); rintro e w5 ⟨rfl, k5⟩; have hI5 := (hI3.kp k4 (fun h => h)).kp k5 (fun h => h); have d5 := hI5.c 5))
  refine (A3.out _).mono ?_
  rintro e w6 ⟨rfl, k6⟩
  go_wp2_with (fail)
  refine (F2.out _).mono ?_
  rintro e w7 ⟨rfl, k7⟩
  have hI7 := (hI5.kp k6 (fun h => h)).kp k7 (fun h => h)
  have hQ7 := (((hQ3.kp k4 (fun h => h)).kp k5 (fun h => h)).kp k6 (fun h => h)).kp k7 (fun h => h)
  have K7 := (((K3.trans k4).trans k5).trans k6).trans k7
  have c0 := hI7.c0
  rw [Hm.out] at c0
  clear hI3 hQ3 K3 c5 k4 k5 k6 k7 hI5 d5 A1 A2 A3 F1 F2 PN en
  go_wp2_with (first
    | ((with_reducible refine gate_store (t := 27) (p := 2) rfl ?_); refine st_ev rfl rfl rfl q (trapC 0 0 false) _ _ rfl rfl (hQ7.blk) infoT rfl (trapC_one _ _ _) ?_; intro wz hs_wz ks_wz)
    )
  refine bodyPost_ret (results_ct rfl _ _ q (trapC 0 0 false) (.bool false) _ rfl rfl hs_wz Try.underlying27 rfl infoT) rfl ?_
  refine ⟨by rw [HC.out, HB.out], ?_⟩
  exact K7.then ks_wz fun i hi (e : i = q) => by omega
theorem rnext_c (s : VS) (w : World) (hs : s.ok) (hm : modeOk s) :
    Calls Try.prog 18 #[.agg s.cells] w fun e w' => e = .returned (.tuple #[.agg (nC (rnextN s)), .bool (decide (0 ≤ rnextN s))]) ∧ KpN w w' := by
  obtain ⟨v1, e1⟩ : ∃ v1, firstW (minus (rsetqW s) (s.r 5)) = v1 := ⟨_, rfl⟩
  obtain ⟨v2, e2⟩ : ∃ v2, firstW (rsetqW s &&& s.r 5) = v2 := ⟨_, rfl⟩
  have key : rnextN s = nextI s.m (bitW (s.r 1) 3) (bitW (s.r 1) 1) v1 v2 := by unfold rnextN; rw [e1, e2]
  show Calls Try.prog 18 #[.agg s.cells] w (nPost (rnextN s) w)
  rw [key]
  have o : 0 ≤ v1 ∨ v1 < 0 := by omega
  have r : 0 ≤ v2 ∨ v2 < 0 := by omega
  have neg : ∀ n : Int, n < 0 → nPost n w = nPost (-1) w := fun n hn => by
    unfold nPost; rw [nC_no hn, nC_no (n := -1) (by decide), decide_eq_false (by omega), decide_eq_false (p := (0 : Int) ≤ -1) (by decide)]
  rcases hm with hm | hm | hm
  · have q : nextI s.m (bitW (s.r 1) 3) (bitW (s.r 1) 1) v1 v2 = if v1 < 0 then v2 else v1 := by unfold nextI; rw [hm]; simp
    rw [q]
    rcases o with o | o
    · rw [if_neg (by omega)]; exact rnext_ua s w hs v1 v2 e1 e2 hm o
    rw [if_pos o]
    rcases r with r | r
    · exact rnext_ub s w hs v1 v2 e1 e2 hm o r
    · rw [neg v2 r]; exact rnext_uc s w hs v1 v2 e1 e2 hm o r
  · have q : nextI s.m (bitW (s.r 1) 3) (bitW (s.r 1) 1) v1 v2 = if v1 < 0 ∧ bitW (s.r 1) 1 = true then v2 else v1 := by unfold nextI; rw [hm]; simp
    rw [q]
    rcases o with o | o
    · rw [if_neg (by omega)]; exact rnext_sa s w hs v1 v2 e1 e2 hm o
    cases hb : bitW (s.r 1) 1
    · rw [if_neg (by simp), neg v1 o]
      rcases r with r | r
      · exact rnext_sc s w hs v1 v2 e1 e2 hm o r hb
      · exact rnext_sd s w hs v1 v2 e1 e2 hm o r
    · rw [if_pos ⟨o, rfl⟩]
      rcases r with r | r
      · exact rnext_sb s w hs v1 v2 e1 e2 hm o r hb
      · rw [neg v2 r]; exact rnext_sd s w hs v1 v2 e1 e2 hm o r
  · have q : nextI s.m (bitW (s.r 1) 3) (bitW (s.r 1) 1) v1 v2 = if bitW (s.r 1) 3 = true then v1 else -1 := by unfold nextI; rw [hm]; simp
    rw [q]
    rcases o with o | o
    · cases hb : bitW (s.r 1) 3
      · rw [if_neg (by simp)]
        rcases r with r | r
        · exact rnext_mb s w hs v1 v2 e1 e2 hm o r hb
        · exact rnext_mc s w hs v1 v2 e1 e2 hm o r hb
      · rw [if_pos rfl]; exact rnext_ma s w hs v1 v2 e1 e2 hm o hb
    · have : nPost (if bitW (s.r 1) 3 = true then v1 else -1) w = nPost (-1) w := by
        split
        · exact neg v1 o
        · rfl
      rw [this]
      rcases r with r | r
      · exact rnext_md s w hs v1 v2 e1 e2 hm o r
      · exact rnext_me s w hs v1 v2 e1 e2 hm o r
end Go.Proofs.Ytnknfepbekaobaa.H
/- The document's answer for traps (vireoref09), walked by hand: the ways back. -/
namespace Go.Proofs.Ytnknfepbekaobaa.H
open Go.RowKit Go.Proofs.YtnknfepbekaobaaW.PrintWords Go.Proofs.YtnknfepbekaobaaW.PrintLast Go.Proofs.Ytnknfepbekaobaa.PAl Go.Proofs.Ytnknfepbekaobaa.Pure Go.Proofs.Ytnknfepbekaobaa.Vw
set_option linter.unusedVariables false
set_option linter.unusedSimpArgs false
open Go.Sort
theorem results_ctt {P : Program} {fn : Func} {p0 p1 p2 : Tmp} {T0 : TypeId} (h : fn.results = #[.cell p0 T0, .tmp p1, .tmp p2]) (tmps : Array Value) (w : World) (g0 : Nat) (c0 : Array Value) (v v2 : Value) (d0 : TypeDesc)
    (h0 : tmps.getD p0 undef = .pointer (some ⟨g0, 0, none⟩)) (h1 : tmps.getD p1 undef = v) (h2 : tmps.getD p2 undef = v2)
    (b0 : w.heap[g0]? = some (.cells c0 T0 (0, 0))) (u0 : P.underlying T0 = some d0) (q0 : (match d0 with | .struct _ | .array _ _ => true | _ => false) = true)
    (i0 : (P.info? T0).map (·.size) = some c0.size) :
    (results fn tmps).run P w = .ok (.tuple #[.agg c0, v, v2]) w := by
  have h0' : tmps[p0]?.getD undef = .pointer (some ⟨g0, 0, none⟩) := by simpa using h0
  have h1' : tmps[p1]?.getD undef = v := by simpa using h1
  have h2' : tmps[p2]?.getD undef = v2 := by simpa using h2
  simp [results, h, h0', h1', h2', asAddr, run_loadVar_row w g0 T0 T0 c0 (0, 0) d0 b0 u0 q0 i0]
section
variable {P : Program} {ops : Array Oper} {Q : Exit → Act → World → Prop} {md : Region.Mode} {S : World → Prop}
/-- A whole row is read, whatever is done elsewhere. -/
theorem H_row {i : Nat} {o : Oper} {fuel : Nat} {listed : Array Bool} {a : Act} {w : World} (hi : ops[i]? = some o) (hs : Region.noSelect ops = true) (hf : Region.free md ops listed i = true) (hr : (Region.ready md ops listed).contains i = true)
    (hQ : ∀ c a w, Q (.panic c) (a.put o.dst undef) w → Q (.panic c) a w) (hQ' : ∀ c (a : Act) v w, Q (.panic c) (a.put o.dst v) w → Q (.panic c) a w) (hgd : o.guard = none)
    {ty : TypeId} {x : Operand} (ho : o.op = .load ty x) (g : Nat) (hx : a.eval x = .pointer (some ⟨g, 0, none⟩)) (t : TypeId) (cs : Array Value) (d : TypeDesc)
    (hg : ∀ w, S w → w.heap[g]? = some (.cells cs t (0, 0))) (hu : P.underlying ty = some d) (hd : (match d with | .struct _ | .array _ _ => true | _ => false) = true) (hsz : (P.info? ty).map (·.size) = some cs.size)
    (hS : S w) (h : wpAnyH P md ops Q S fuel (listed.setIfInBounds i true) (a.put o.dst (.agg cs)) w) : wpAnyH P md ops Q S (fuel + 1) listed a w := by
  refine wpAnyH_take hi hs hf hr (fun c a w => hQ' c a _ w) (.inl ⟨wanted_none hgd _, fun w hw => ?_⟩) hS h
  unfold execOp
  simp only [ho, hx, Instr.loadAt, Instr.sureAddr, Sem.run_bind, Sem.run_pure, Result.andThen_ok, run_loadVar_row w g t ty cs (0, 0) d (hg w hw) hu hd hsz]
/-- One alone may come up. -/
theorem H_only {i : Nat} {o : Oper} {fuel : Nat} {listed : Array Bool} {a : Act} {w : World} (hr : Region.ready md ops listed = [i]) (hi : ops[i]? = some o) (hgd : o.guard = none)
    (h : o.wp P a w (fun a' w' => S w' ∧ wpAnyH P md ops Q S fuel (listed.setIfInBounds i true) a' w') Q) : wpAnyH P md ops Q S (fuel + 1) listed a w :=
  wpAnyH_all hr (by simp) fun k hk => by
    have : k = i := by simpa using hk
    subst this; exact op_in hi hgd h
end
/-- 'return f, f.K[i], true' of a variable f: a row and a cell of it are read, the row is stored, and two are told. -/
theorem row_out {P : Program} {id : Nat} {Q : Exit → Act → World → Prop} {a : Act} {w : World} {o0 o1 o2 o3 o4 o5 o6 : Oper} (hm : P.follows .mixedOrders = true)
    (hs : Region.noSelect #[o0, o1, o2, o3, o4, o5, o6] = true)
    (n0 : o0.guard = none) (n1 : o1.guard = none) (n2 : o2.guard = none) (n3 : o3.guard = none) (n4 : o4.guard = none) (n5 : o5.guard = none) (n6 : o6.guard = none)
    (f0 : Region.free .any #[o0, o1, o2, o3, o4, o5, o6] #[false, false, false, false, false, false, false] 0 = true)
    (f1 : Region.free .any #[o0, o1, o2, o3, o4, o5, o6] #[true, false, false, false, false, false, false] 1 = true)
    (f2 : Region.free .any #[o0, o1, o2, o3, o4, o5, o6] #[true, true, false, false, false, false, false] 2 = true)
    (f3 : Region.free .any #[o0, o1, o2, o3, o4, o5, o6] #[true, true, true, false, false, false, false] 3 = true)
    (r0 : (Region.ready .any #[o0, o1, o2, o3, o4, o5, o6] #[false, false, false, false, false, false, false]).contains 0 = true)
    (r1 : (Region.ready .any #[o0, o1, o2, o3, o4, o5, o6] #[true, false, false, false, false, false, false]).contains 1 = true)
    (r2 : (Region.ready .any #[o0, o1, o2, o3, o4, o5, o6] #[true, true, false, false, false, false, false]).contains 2 = true)
    (r3 : (Region.ready .any #[o0, o1, o2, o3, o4, o5, o6] #[true, true, true, false, false, false, false]).contains 3 = true)
    (r4 : Region.ready .any #[o0, o1, o2, o3, o4, o5, o6] #[true, true, true, true, false, false, false] = [4])
    (r5 : Region.ready .any #[o0, o1, o2, o3, o4, o5, o6] #[true, true, true, true, true, false, false] = [5])
    (r6 : Region.ready .any #[o0, o1, o2, o3, o4, o5, o6] #[true, true, true, true, true, true, false] = [6])
    (r7 : Region.ready .any #[o0, o1, o2, o3, o4, o5, o6] #[true, true, true, true, true, true, true] = [])
    (qp0 : ∀ c a v w, Q (.panic c) (Act.put a o0.dst v) w → Q (.panic c) a w)
    (qp1 : ∀ c a v w, Q (.panic c) (Act.put a o1.dst v) w → Q (.panic c) a w)
    (qp2 : ∀ c a v w, Q (.panic c) (Act.put a o2.dst v) w → Q (.panic c) a w)
    (qp3 : ∀ c a v w, Q (.panic c) (Act.put a o3.dst v) w → Q (.panic c) a w)
    {T : TypeId} {x0 x4 y4 x5 x6 : Operand} {D : TypeDesc} (e0 : o0.op = .load T x0) (e4 : o4.op = .store T x4 y4) (e5 : o5.op = .assign x5) (e6 : o6.op = .assign x6) (d4 : o4.dst = none)
    (u0 : P.underlying T = some D) (q0 : (match D with | .struct _ | .array _ _ => true | _ => false) = true)
    (g h : Nat) (cs zs : Array Value) (v1 v2 v3 : Value) (i0 : (P.info? T).map (·.size) = some cs.size) (s0 : zs.size = cs.size) (c1 : cs.all (·.oneCell') = true)
    (b0 : w.heap[g]? = some (.cells cs T (0, 0))) (b1 : w.heap[h]? = some (.cells zs T (0, 0))) (ne : g ≠ h)
    (p0 : a.eval x0 = .pointer (some ⟨g, 0, none⟩))
    (y1 : ∀ w, (execOp (a.put o0.dst (.agg cs)).eval o1).run P w = .ok (.value v1) w)
    (y2 : ∀ w, (execOp ((a.put o0.dst (.agg cs)).put o1.dst v1).eval o2).run P w = .ok (.value v2) w)
    (y3 : ∀ w, w.heap[g]? = some (.cells cs T (0, 0)) → (execOp (((a.put o0.dst (.agg cs)).put o1.dst v1).put o2.dst v2).eval o3).run P w = .ok (.value v3) w)
    (p4 : ((((a.put o0.dst (.agg cs)).put o1.dst v1).put o2.dst v2).put o3.dst v3).eval x4 = .pointer (some ⟨h, 0, none⟩))
    (p5 : ((((a.put o0.dst (.agg cs)).put o1.dst v1).put o2.dst v2).put o3.dst v3).eval y4 = .agg cs)
    (k : ∀ w2 (b a1 a2 : Act), w2.heap[h]? = some (.cells cs T (0, 0)) → Kp w w2 (fun i => i = h) → b = (((a.put o0.dst (.agg cs)).put o1.dst v1).put o2.dst v2).put o3.dst v3 → a1 = b.put o5.dst (b.eval x5) → a2 = a1.put o6.dst (a1.eval x6) → Q .normal a2 w2) :
    (Code.region id #[o0, o1, o2, o3, o4, o5, o6] true).wp P Q a w := by
  refine wp_region_held (S := fun W => W.heap[g]? = some (.cells cs T (0, 0))) hm ?_
  show wpAnyH P .any #[o0, o1, o2, o3, o4, o5, o6] Q _ 7 #[false, false, false, false, false, false, false] a w.drew
  have hS0 : w.drew.heap[g]? = some (.cells cs T (0, 0)) := b0
  refine wpAnyH_take (i := 0) (oi := o0) (v := .agg cs) rfl hs f0 r0 (fun c a w => qp0 c a _ w) (.inl ⟨wanted_none n0 _, fun W hW => ?_⟩) hS0 ?_
  · unfold execOp
    simp only [e0, p0, Instr.loadAt, Instr.sureAddr, Sem.run_bind, Sem.run_pure, Result.andThen_ok, run_loadVar_row W g T T cs (0, 0) D hW u0 q0 i0]
  show wpAnyH P .any #[o0, o1, o2, o3, o4, o5, o6] Q _ 6 #[true, false, false, false, false, false, false] _ w.drew
  refine wpAnyH_take (i := 1) (oi := o1) rfl hs f1 r1 (fun c a w => qp1 c a _ w) (.inl ⟨wanted_none n1 _, fun W _ => y1 W⟩) hS0 ?_
  show wpAnyH P .any #[o0, o1, o2, o3, o4, o5, o6] Q _ 5 #[true, true, false, false, false, false, false] _ w.drew
  refine wpAnyH_take (i := 2) (oi := o2) rfl hs f2 r2 (fun c a w => qp2 c a _ w) (.inl ⟨wanted_none n2 _, fun W _ => y2 W⟩) hS0 ?_
  show wpAnyH P .any #[o0, o1, o2, o3, o4, o5, o6] Q _ 4 #[true, true, true, false, false, false, false] _ w.drew
  refine wpAnyH_take (i := 3) (oi := o3) rfl hs f3 r3 (fun c a w => qp3 c a _ w) (.inl ⟨wanted_none n3 _, fun W hW => y3 W hW⟩) hS0 ?_
  show wpAnyH P .any #[o0, o1, o2, o3, o4, o5, o6] Q _ 3 #[true, true, true, true, false, false, false] _ w.drew
  refine H_only (i := 4) (o := o4) r4 rfl n4 (wp_st e4 d4 h cs zs T p4 p5 b1 i0 s0 c1 fun w2 h2 k2 => ?_)
  have hS2 : w2.heap[g]? = some (.cells cs T (0, 0)) := (k2.block g (blk_lt b0) ne).trans b0
  refine ⟨hS2, ?_⟩
  show wpAnyH P .any #[o0, o1, o2, o3, o4, o5, o6] Q _ 2 #[true, true, true, true, true, false, false] _ w2
  refine H_only (i := 5) (o := o5) r5 rfl n5 (wp_as e5 ⟨hS2, ?_⟩)
  show wpAnyH P .any #[o0, o1, o2, o3, o4, o5, o6] Q _ 1 #[true, true, true, true, true, true, false] _ w2
  refine H_only (i := 6) (o := o6) r6 rfl n6 (wp_as e6 ⟨hS2, ?_⟩)
  exact wpAnyH_done r7 (k w2 _ _ _ h2 ((Kp.refl _ _).drew.trans k2) rfl rfl rfl) _
def rmretS (s : VS) (n : Nat) : VS :=
  let s3 := rsetW (rsetW (s.mode n) 3 (bitW (s.r 1) 7)) 7 true
  if n = 3 then s3.set 1 (putW (s3.r 1) 11 2 0) else rsetW (s3.set 1 (putW (s3.r 1) 11 2 0)) 17 false
theorem putr_l (x n : Nat) (w : World) (hx : U x) : Calls Try.prog 45 #[.int .u64 (x : Int), .int .i64 11, .int .i64 2, .int .u64 0] w fun e w' => e = .returned (.int .u64 ((putW x 11 2 0 : Nat) : Int)) ∧ KpN w w' := putr_c x 11 2 0 w hx U.num
set_option maxHeartbeats 8000000 in
set_option maxRecDepth 100000 in
theorem rmret_no (s : VS) (w : World) (hm : s.m ≠ 3) :
    Calls Try.prog 24 #[.agg s.cells] w fun e w' => e = .returned (.tuple #[.agg s.cells, .int .u64 0, .bool false]) ∧ KpN w w' := by
  have t0 : (s.m != 3) = true := bne_iff_ne.2 hm
  clear hm
  go_enter Try.func24, Try.ntmps24
  go_wp2_with (first
    | (((with_reducible refine gate_dst (N := 1) rfl ?_); refine bx_ev rfl rfl (N := 1) rfl (s.cells) rfl ?_; intro g hg_g w1 hb_g hk_g; have Hg_g := Aside0.mk hg_g; clear hg_g); have hI1 : St RT w1 g s := St.mk hb_g)
    | (((with_reducible refine gate_dst (N := 2) rfl ?_); refine al_ev rfl rfl (N := 2) rfl _ (zeroR _) ?_; intro h hg_h w2 hb_h hk_h; have Hg_h := Aside0.mk hg_h; clear hg_h); have hI2 := hI1.kp hk_h (fun h => h); have c0 := hI2.c0)
    | ((with_reducible refine gate_dst (N := 8) rfl ?_); refine wpList_load_row rfl 34 _ rfl g rfl _ (s.cells) (0, 0) _ (hI2.blk) Try.underlying34 rfl infoR ?_)
    | ((with_reducible refine gate_store (t := 34) (p := 2) rfl ?_); refine st_ev rfl rfl rfl h (s.cells) _ _ rfl rfl (hb_h) infoR rfl (VS.one _) ?_; intro w3 hs_w3 ks_w3))
  refine bodyPost_ret (results_ctt rfl _ _ h s.cells (.int .u64 0) (.bool false) _ rfl rfl rfl hs_w3 Try.underlying34 rfl infoR) rfl ?_
  exact ⟨rfl, (hk_g.trans hk_h).then ks_w3 fun i hi (e : i = h) => by have := Hg_h.out; have := hk_g.size; omega⟩
set_option maxHeartbeats 8000000 in
set_option maxRecDepth 100000 in
theorem rmret_three (s : VS) (w : World) (hs : s.ok) (hm : s.m = 3) (n : Nat) (hn : getW (s.r 1) 11 2 = n) (h3 : n = 3) (r : Nat) (hr : r = s.r 10) :
    Calls Try.prog 24 #[.agg s.cells] w fun e w' => e = .returned (.tuple #[.agg (rmretS s n).cells, .int .u64 (r : Int), .bool true]) ∧ KpN w w' := by
  have hl : n < 4 := by rw [← hn]; exact mppW_lt s
  have ew : wrap64 (n : Int) = (n : Int) := by unfold wrap64; omega
  have G : Aside0 (∀ W, Calls Try.prog 50 #[.int .u64 (s.r 1 : Int), .int .i64 11, .int .i64 2] W fun e w' => e = .returned (.int .u64 (n : Int)) ∧ KpN W w') := ⟨fun W => by rw [← hn]; exact getr_c _ _ _ W (hs 1)⟩
  have ok1 : (s.mode n).ok := hs
  have ok2 := rsetW_ok ok1 3 (bitW (s.r 1) 7)
  have ok3 := rsetW_ok ok2 7 true
  have iS : ∀ W, Calls Try.prog 26 #[.agg (s.mode n).cells, .int .i64 7] W fun e w' => e = .returned (.bool (bitW (s.r 1) 7)) ∧ KpN W w' := fun W => is_r _ 7 W ok1
  have sS : ∀ W, Calls Try.prog 44 #[.agg (s.mode n).cells, .int .i64 3, .bool (bitW (s.r 1) 7)] W fun e w' => e = .returned (.agg (rsetW (s.mode n) 3 (bitW (s.r 1) 7)).cells) ∧ KpN W w' := fun W => set_r _ 3 _ W ok1
  have hT0 : rmretS s n = (rsetW (rsetW (s.mode n) 3 (bitW (s.r 1) 7)) 7 true).set 1 (putW ((rsetW (rsetW (s.mode n) 3 (bitW (s.r 1) 7)) 7 true).r 1) 11 2 0) := by
    show (if n = 3 then _ else _) = _
    rw [if_pos h3]
  have hR0 : r = (rsetW (rsetW (s.mode n) 3 (bitW (s.r 1) 7)) 7 true).r 10 := hr
  have Hm0 : (rsetW (rsetW (s.mode n) 3 (bitW (s.r 1) 7)) 7 true).m = (n : Int) := rfl
  have eS1 : s.mode n = s.mode n := rfl
  generalize hs2 : rsetW (s.mode n) 3 (bitW (s.r 1) 7) = s2 at *
  generalize hs3 : rsetW s2 7 true = s3 at *
  have H3 := Aside0.mk hs3
  have HT := Aside0.mk hT0
  have HR0 := Aside0.mk hR0
  have HM := Aside0.mk Hm0
  have Hm := Aside0.mk hm
  have t3 : ((n : Int) != 3) = false := by rw [h3]; rfl
  have IS := Aside0.mk iS
  have SS := Aside0.mk sS
  have HS := Aside0.mk hs
  clear hm hn h3 hr hs2 hs3 Hm0 eS1 hs hT0 hR0 iS sS
  go_enter Try.func24, Try.ntmps24
  go_wp2_with (first
    | (((with_reducible refine gate_dst (N := 1) rfl ?_); refine bx_ev rfl rfl (N := 1) rfl (s.cells) rfl ?_; intro g hg_g w1 hb_g hk_g; have Hg_g := Aside0.mk hg_g; clear hg_g); have hI1 : St RT w1 g s := St.mk hb_g)
    | (((with_reducible refine gate_dst (N := 2) rfl ?_); refine al_ev rfl rfl (N := 2) rfl _ (zeroR _) ?_; intro h hg_h w2 hb_h hk_h; have Hg_h := Aside0.mk hg_h; clear hg_h); have hI2 := hI1.kp hk_h (fun h => h); have hH2 : St RT w2 h (VS.mk 0 fun _ => 0) := St.mk hb_h; have c0 := hI2.c0; rw [Hm.out] at c0; have c1 := hI2.c 1))
  have hgh : g ≠ h := by have := Hg_h.out; have := hI1.lt; omega
  have hgw : w.heap.size ≤ g := by have := Hg_g.out; omega
  have hhw : w.heap.size ≤ h := by have := Hg_h.out; have := hk_g.size; omega
  have K2 : KpN w w2 := hk_g.trans hk_h
  clear hI1 hb_g hb_h hk_g hk_h Hg_g Hg_h
  refine (G.out _).mono ?_
  rintro e w3 ⟨rfl, k3⟩
  have hI3 := hI2.kp k3 (fun h => h)
  have hH3 := hH2.kp k3 (fun h => h)
  have K3 := K2.trans k3
  have f0 := hI3.f 0
  have d0 := hI3.c0
  clear hI2 hH2 K2 k3 c0 c1
  go_wp2_with (fail)
  have hI4 : St RT _ g (s.mode n) := hI3.set0 n
  have k34 := (Kp.refl w3 (fun i => i = g)).setCell (p := ⟨g, 0, none⟩) (.inl rfl) (.int .i64 (n : Int))
  generalize w3.setCell ⟨g, 0, none⟩ (.int .i64 (n : Int)) = w4 at hI4 k34 ⊢
  have hH4 := hH3.kp k34 hgh.symm
  have K4 : KpN w w4 := K3.then k34 fun i hi (e : i = g) => by omega
  clear hI3 hH3 K3 k34 f0 d0
  have cQ1 := rg_calls (w := w4) fun W _ => IS.out W
  have cQ2 := rg_calls (w := w4) fun W _ => SS.out W
  have kb : ∀ W, Rg w4 W → W.heap[g]? = some (.cells (s.mode n).cells 34 (0, 0)) := fun W h => (hI4.kp h.kp (fun h => h)).blk
  refine wp_region_rg 4 (by kernel_rfl) (by kernel_rfl) ?_
  simp only [List.take_succ_cons, List.take_zero, List.drop_succ_cons, List.drop_zero]
  refine wpQuiet_ld (C := Rg w4) (by rfl) rfl g rfl 34 (s.mode n).cells _ kb rfl rfl rfl ?_
  refine wpQuiet_ld (C := Rg w4) (by rfl) rfl g rfl 34 (s.mode n).cells _ kb rfl rfl rfl ?_
  clear kb
  repeat (quiet_step (first | with_reducible exact cQ1 _ _ | with_reducible exact cQ2 _ _))
  refine wpQuiet_nil ?_
  intro w5 hw5
  replace hw5 : Rg w4 w5 := hw5
  have hI5 := hI4.kp hw5.kp (fun h => h)
  have hH5 := hH4.kp hw5.kp (fun h => h)
  have K5 := K4.trans hw5.kp
  clear hI4 hH4 K4 hw5 cQ1 cQ2
  have SR : Aside0 (∀ W, Calls Try.prog 44 #[.agg s2.cells, .int .i64 7, .bool true] W fun e w' => e = .returned (.agg s3.cells) ∧ KpN W w') := ⟨fun W => by rw [← H3.out]; exact set_r s2 7 true W ok2⟩
  go_wp2_with (first
    | (((with_reducible refine gate_store (t := 34) (p := 1) rfl ?_); refine st_ev rfl rfl rfl g (s2.cells) _ _ rfl rfl (hI5.blk) infoR rfl (VS.one _) ?_; intro w6 hs_w6 ks_w6); have hI6 : St RT w6 g s2 := ⟨hs_w6⟩)
    | ((with_reducible refine gate_dst (N := 19) rfl ?_); refine wpList_load_row rfl 34 _ rfl g rfl _ (s2.cells) (0, 0) _ (hI6.blk) Try.underlying34 rfl infoR ?_)
    | (go_at_call 44; (with_reducible refine (SR.out _).mono ?_); rintro e w7 ⟨rfl, k7⟩; have hI7 := hI6.kp k7 (fun h => h))
    | (((with_reducible refine gate_store (t := 34) (p := 1) rfl ?_); refine st_ev rfl rfl rfl g (s3.cells) _ _ rfl rfl (hI7.blk) infoR rfl (VS.one _) ?_; intro w8 hs_w8 ks_w8); have hI8 : St RT w8 g s3 := ⟨hs_w8⟩; have d1 := hI8.c 1))
  refine (putr_c (s3.r 1) 11 2 0 _ (ok3 1) U.num).mono ?_
  rintro e w9 ⟨rfl, k9⟩
  have k59 : Kp w5 w9 (fun i => i = g) := ((ks_w6.trans (k7.mono fun _ _ h => h.elim)).trans ks_w8).trans (k9.mono fun _ _ h => h.elim)
  have hI9 := hI8.kp k9 (fun h => h)
  have hH9 := hH5.kp k59 hgh.symm
  have K9 : KpN w w9 := K5.then k59 fun i hi (e : i = g) => by omega
  clear hI5 hH5 K5 hI6 hI7 hI8 d1 hs_w6 ks_w6 k7 hs_w8 ks_w8 k9 k59 SR
  have f1 := hI9.f 1
  have c1 := hI9.c 1
  have c0 := hI9.c0
  rw [HM.out] at c0
  have okz : (s3.set 1 (putW (s3.r 1) 11 2 0)).ok := VS.set_ok ok3 1 ((ok3 1).put 11 2 0)
  go_wp2_with (fail)
  have hIz := hI9.set 1 (putW (s3.r 1) 11 2 0)
  have k9z := (Kp.refl w9 (fun i => i = g)).setCell (p := ⟨g, 1, none⟩) (.inl rfl) (.int .u64 (putW (s3.r 1) 11 2 0 : Int))
  generalize w9.setCell ⟨g, 1, none⟩ (.int .u64 (putW (s3.r 1) 11 2 0 : Int)) = wz at hIz k9z ⊢
  have hHz := hH9.kp k9z hgh.symm
  have Kz : KpN w wz := K9.then k9z fun i hi (e : i = g) => by omega
  have HR : Aside0 (r = (s3.set 1 (putW (s3.r 1) 11 2 0)).r 10) := ⟨HR0.out⟩
  generalize s3.set 1 (putW (s3.r 1) 11 2 0) = sz at *
  clear hI9 hH9 K9 k9z f1 c1 c0
  refine row_out (by kernel_rfl) (by kernel_rfl) rfl rfl rfl rfl rfl rfl rfl (by kernel_rfl) (by kernel_rfl) (by kernel_rfl) (by kernel_rfl) (by kernel_rfl) (by kernel_rfl) (by kernel_rfl) (by kernel_rfl) (by kernel_rfl) (by kernel_rfl) (by kernel_rfl) (by kernel_rfl) (fun _ _ _ _ h => h) (fun _ _ _ _ h => h) (fun _ _ _ _ h => h) (fun _ _ _ _ h => h) rfl rfl rfl rfl rfl Try.underlying34 rfl g h (sz).cells (VS.mk 0 fun _ => 0).cells (.pointer (some ⟨g, 1, none⟩)) (.pointer (some ⟨g, 10, none⟩)) (.int .u64 (r : Int)) infoR rfl (VS.one _) hIz.blk hHz.blk hgh rfl (fun W => by go_simp) (fun W => by go_simp) (fun W hW => ?_) rfl rfl ?_
  · have cW : W.cell? ⟨g, 10, none⟩ = some (.int .u64 (r : Int)) := by rw [HR.out]; exact (St.mk (T := RT) (s := sz) hW).c 10
    go_simp
  intro wy ab a1 a2 hy ky ea1 ea2 ea3
  subst ea1
  subst ea2
  subst ea3
  go_simp
  go_wp2
  refine bodyPost_ret (results_ctt rfl _ _ h (sz).cells (.int .u64 (r : Int)) (.bool true) _ rfl rfl rfl hy Try.underlying34 rfl infoR) rfl ?_
  rw [HT.out]
  exact ⟨rfl, Kz.then ky fun i hi (e : i = h) => by omega⟩
set_option maxHeartbeats 8000000 in
set_option maxRecDepth 100000 in
theorem rmret_less (s : VS) (w : World) (hs : s.ok) (hm : s.m = 3) (n : Nat) (hn : getW (s.r 1) 11 2 = n) (h3 : n ≠ 3) (r : Nat) (hr : r = s.r 10) :
    Calls Try.prog 24 #[.agg s.cells] w fun e w' => e = .returned (.tuple #[.agg (rmretS s n).cells, .int .u64 (r : Int), .bool true]) ∧ KpN w w' := by
  have hl : n < 4 := by rw [← hn]; exact mppW_lt s
  have ew : wrap64 (n : Int) = (n : Int) := by unfold wrap64; omega
  have G : Aside0 (∀ W, Calls Try.prog 50 #[.int .u64 (s.r 1 : Int), .int .i64 11, .int .i64 2] W fun e w' => e = .returned (.int .u64 (n : Int)) ∧ KpN W w') := ⟨fun W => by rw [← hn]; exact getr_c _ _ _ W (hs 1)⟩
  have ok1 : (s.mode n).ok := hs
  have ok2 := rsetW_ok ok1 3 (bitW (s.r 1) 7)
  have ok3 := rsetW_ok ok2 7 true
  have iS : ∀ W, Calls Try.prog 26 #[.agg (s.mode n).cells, .int .i64 7] W fun e w' => e = .returned (.bool (bitW (s.r 1) 7)) ∧ KpN W w' := fun W => is_r _ 7 W ok1
  have sS : ∀ W, Calls Try.prog 44 #[.agg (s.mode n).cells, .int .i64 3, .bool (bitW (s.r 1) 7)] W fun e w' => e = .returned (.agg (rsetW (s.mode n) 3 (bitW (s.r 1) 7)).cells) ∧ KpN W w' := fun W => set_r _ 3 _ W ok1
  have hT0 : rmretS s n = rsetW ((rsetW (rsetW (s.mode n) 3 (bitW (s.r 1) 7)) 7 true).set 1 (putW ((rsetW (rsetW (s.mode n) 3 (bitW (s.r 1) 7)) 7 true).r 1) 11 2 0)) 17 false := by
    show (if n = 3 then _ else _) = _
    rw [if_neg h3]
  have hR0 : r = (rsetW (rsetW (s.mode n) 3 (bitW (s.r 1) 7)) 7 true).r 10 := hr
  have Hm0 : (rsetW (rsetW (s.mode n) 3 (bitW (s.r 1) 7)) 7 true).m = (n : Int) := rfl
  have eS1 : s.mode n = s.mode n := rfl
  generalize hs2 : rsetW (s.mode n) 3 (bitW (s.r 1) 7) = s2 at *
  generalize hs3 : rsetW s2 7 true = s3 at *
  have H3 := Aside0.mk hs3
  have HT := Aside0.mk hT0
  have HR0 := Aside0.mk hR0
  have HM := Aside0.mk Hm0
  have Hm := Aside0.mk hm
  have t3 : ((n : Int) != 3) = true := bne_iff_ne.2 (by omega)
  have IS := Aside0.mk iS
  have SS := Aside0.mk sS
  have HS := Aside0.mk hs
  clear hm hn h3 hr hs2 hs3 Hm0 eS1 hs hT0 hR0 iS sS
  go_enter Try.func24, Try.ntmps24
  go_wp2_with (first
    | (((with_reducible refine gate_dst (N := 1) rfl ?_); refine bx_ev rfl rfl (N := 1) rfl (s.cells) rfl ?_; intro g hg_g w1 hb_g hk_g; have Hg_g := Aside0.mk hg_g; clear hg_g); have hI1 : St RT w1 g s := St.mk hb_g)
    | (((with_reducible refine gate_dst (N := 2) rfl ?_); refine al_ev rfl rfl (N := 2) rfl _ (zeroR _) ?_; intro h hg_h w2 hb_h hk_h; have Hg_h := Aside0.mk hg_h; clear hg_h); have hI2 := hI1.kp hk_h (fun h => h); have hH2 : St RT w2 h (VS.mk 0 fun _ => 0) := St.mk hb_h; have c0 := hI2.c0; rw [Hm.out] at c0; have c1 := hI2.c 1))
  have hgh : g ≠ h := by have := Hg_h.out; have := hI1.lt; omega
  have hgw : w.heap.size ≤ g := by have := Hg_g.out; omega
  have hhw : w.heap.size ≤ h := by have := Hg_h.out; have := hk_g.size; omega
  have K2 : KpN w w2 := hk_g.trans hk_h
  clear hI1 hb_g hb_h hk_g hk_h Hg_g Hg_h
  refine (G.out _).mono ?_
  rintro e w3 ⟨rfl, k3⟩
  have hI3 := hI2.kp k3 (fun h => h)
  have hH3 := hH2.kp k3 (fun h => h)
  have K3 := K2.trans k3
  have f0 := hI3.f 0
  have d0 := hI3.c0
  clear hI2 hH2 K2 k3 c0 c1
  go_wp2_with (fail)
  have hI4 : St RT _ g (s.mode n) := hI3.set0 n
  have k34 := (Kp.refl w3 (fun i => i = g)).setCell (p := ⟨g, 0, none⟩) (.inl rfl) (.int .i64 (n : Int))
  generalize w3.setCell ⟨g, 0, none⟩ (.int .i64 (n : Int)) = w4 at hI4 k34 ⊢
  have hH4 := hH3.kp k34 hgh.symm
  have K4 : KpN w w4 := K3.then k34 fun i hi (e : i = g) => by omega
  clear hI3 hH3 K3 k34 f0 d0
  have cQ1 := rg_calls (w := w4) fun W _ => IS.out W
  have cQ2 := rg_calls (w := w4) fun W _ => SS.out W
  have kb : ∀ W, Rg w4 W → W.heap[g]? = some (.cells (s.mode n).cells 34 (0, 0)) := fun W h => (hI4.kp h.kp (fun h => h)).blk
  refine wp_region_rg 4 (by kernel_rfl) (by kernel_rfl) ?_
  simp only [List.take_succ_cons, List.take_zero, List.drop_succ_cons, List.drop_zero]
  refine wpQuiet_ld (C := Rg w4) (by rfl) rfl g rfl 34 (s.mode n).cells _ kb rfl rfl rfl ?_
  refine wpQuiet_ld (C := Rg w4) (by rfl) rfl g rfl 34 (s.mode n).cells _ kb rfl rfl rfl ?_
  clear kb
  repeat (quiet_step (first | with_reducible exact cQ1 _ _ | with_reducible exact cQ2 _ _))
  refine wpQuiet_nil ?_
  intro w5 hw5
  replace hw5 : Rg w4 w5 := hw5
  have hI5 := hI4.kp hw5.kp (fun h => h)
  have hH5 := hH4.kp hw5.kp (fun h => h)
  have K5 := K4.trans hw5.kp
  clear hI4 hH4 K4 hw5 cQ1 cQ2
  have SR : Aside0 (∀ W, Calls Try.prog 44 #[.agg s2.cells, .int .i64 7, .bool true] W fun e w' => e = .returned (.agg s3.cells) ∧ KpN W w') := ⟨fun W => by rw [← H3.out]; exact set_r s2 7 true W ok2⟩
  go_wp2_with (first
    | (((with_reducible refine gate_store (t := 34) (p := 1) rfl ?_); refine st_ev rfl rfl rfl g (s2.cells) _ _ rfl rfl (hI5.blk) infoR rfl (VS.one _) ?_; intro w6 hs_w6 ks_w6); have hI6 : St RT w6 g s2 := ⟨hs_w6⟩)
    | ((with_reducible refine gate_dst (N := 19) rfl ?_); refine wpList_load_row rfl 34 _ rfl g rfl _ (s2.cells) (0, 0) _ (hI6.blk) Try.underlying34 rfl infoR ?_)
    | (go_at_call 44; (with_reducible refine (SR.out _).mono ?_); rintro e w7 ⟨rfl, k7⟩; have hI7 := hI6.kp k7 (fun h => h))
    | (((with_reducible refine gate_store (t := 34) (p := 1) rfl ?_); refine st_ev rfl rfl rfl g (s3.cells) _ _ rfl rfl (hI7.blk) infoR rfl (VS.one _) ?_; intro w8 hs_w8 ks_w8); have hI8 : St RT w8 g s3 := ⟨hs_w8⟩; have d1 := hI8.c 1))
  refine (putr_c (s3.r 1) 11 2 0 _ (ok3 1) U.num).mono ?_
  rintro e w9 ⟨rfl, k9⟩
  have k59 : Kp w5 w9 (fun i => i = g) := ((ks_w6.trans (k7.mono fun _ _ h => h.elim)).trans ks_w8).trans (k9.mono fun _ _ h => h.elim)
  have hI9 := hI8.kp k9 (fun h => h)
  have hH9 := hH5.kp k59 hgh.symm
  have K9 : KpN w w9 := K5.then k59 fun i hi (e : i = g) => by omega
  clear hI5 hH5 K5 hI6 hI7 hI8 d1 hs_w6 ks_w6 k7 hs_w8 ks_w8 k9 k59 SR
  have f1 := hI9.f 1
  have c1 := hI9.c 1
  have c0 := hI9.c0
  rw [HM.out] at c0
  have okz : (s3.set 1 (putW (s3.r 1) 11 2 0)).ok := VS.set_ok ok3 1 ((ok3 1).put 11 2 0)
  have HR : Aside0 (r = (rsetW (s3.set 1 (putW (s3.r 1) 11 2 0)) 17 false).r 10) := ⟨HR0.out⟩
  have SZ : Aside0 (∀ W, Calls Try.prog 44 #[.agg (s3.set 1 (putW (s3.r 1) 11 2 0)).cells, .int .i64 17, .bool false] W fun e w' => e = .returned (.agg (rsetW (s3.set 1 (putW (s3.r 1) 11 2 0)) 17 false).cells) ∧ KpN W w') := ⟨fun W => set_r _ 17 false W okz⟩
  have hI9' := hI9.set 1 (putW (s3.r 1) 11 2 0)
  generalize hsy : s3.set 1 (putW (s3.r 1) 11 2 0) = sy at *
  generalize hsz : rsetW sy 17 false = sz at *
  clear hsy hsz
  go_wp2_with (first
    | ((with_reducible refine gate_dst (N := 30) rfl ?_); refine wpList_load_row rfl 34 _ rfl g rfl _ (sy.cells) (0, 0) _ (hI9'.blk) Try.underlying34 rfl infoR ?_)
    | (go_at_call 44; (with_reducible refine (SZ.out _).mono ?_); rintro e wy ⟨rfl, ky⟩; have hIy := hI9'.kp ky (fun h => h))
    | (((with_reducible refine gate_store (t := 34) (p := 1) rfl ?_); refine st_ev rfl rfl rfl g (sz.cells) _ _ rfl rfl (hIy.blk) infoR rfl (VS.one _) ?_; intro wz hs_wz ks_wz); have hIz : St RT wz g sz := ⟨hs_wz⟩))
  have k9z : Kp w9 wz (fun i => i = g) := (((Kp.refl w9 (fun i => i = g)).setCell (p := ⟨g, 1, none⟩) (.inl rfl) (.int .u64 (putW (s3.r 1) 11 2 0 : Int))).trans (ky.mono fun _ _ h => h.elim)).trans ks_wz
  have hHz := hH9.kp k9z hgh.symm
  have Kz : KpN w wz := K9.then k9z fun i hi (e : i = g) => by omega
  clear hI9 hH9 K9 k9z f1 c1 c0 hI9' hIy ky hs_wz ks_wz SZ
  refine row_out (by kernel_rfl) (by kernel_rfl) rfl rfl rfl rfl rfl rfl rfl (by kernel_rfl) (by kernel_rfl) (by kernel_rfl) (by kernel_rfl) (by kernel_rfl) (by kernel_rfl) (by kernel_rfl) (by kernel_rfl) (by kernel_rfl) (by kernel_rfl) (by kernel_rfl) (by kernel_rfl) (fun _ _ _ _ h => h) (fun _ _ _ _ h => h) (fun _ _ _ _ h => h) (fun _ _ _ _ h => h) rfl rfl rfl rfl rfl Try.underlying34 rfl g h (sz).cells (VS.mk 0 fun _ => 0).cells (.pointer (some ⟨g, 1, none⟩)) (.pointer (some ⟨g, 10, none⟩)) (.int .u64 (r : Int)) infoR rfl (VS.one _) hIz.blk hHz.blk hgh rfl (fun W => by go_simp) (fun W => by go_simp) (fun W hW => ?_) rfl rfl ?_
  · have cW : W.cell? ⟨g, 10, none⟩ = some (.int .u64 (r : Int)) := by rw [HR.out]; exact (St.mk (T := RT) (s := sz) hW).c 10
    go_simp
  intro wy ab a1 a2 hy ky ea1 ea2 ea3
  subst ea1
  subst ea2
  subst ea3
  go_simp
  go_wp2
  refine bodyPost_ret (results_ctt rfl _ _ h (sz).cells (.int .u64 (r : Int)) (.bool true) _ rfl rfl rfl hy Try.underlying34 rfl infoR) rfl ?_
  rw [HT.out]
  exact ⟨rfl, Kz.then ky fun i hi (e : i = h) => by omega⟩
def rsretS (s : VS) : VS := rsetW (rsetW (rsetW (rsetW (s.mode (flagW (bitW (s.r 1) 8) : Nat)) 1 (bitW (s.r 1) 5)) 5 true) 8 false) 17 false
set_option maxHeartbeats 8000000 in
set_option maxRecDepth 100000 in
theorem rsret_no0 (s : VS) (w : World) (hs : s.ok) (hm : s.m = 0) :
    Calls Try.prog 22 #[.agg s.cells] w fun e w' => e = .returned (.tuple #[.agg s.cells, .int .u64 0, .bool false]) ∧ KpN w w' := by
  have I := Aside0.mk hs
  have Hm := Aside0.mk hm
  clear hm hs
  go_enter Try.func22, Try.ntmps22
  go_wp2_with (first
    | (((with_reducible refine gate_dst (N := 1) rfl ?_); refine bx_ev rfl rfl (N := 1) rfl (s.cells) rfl ?_; intro g hg_g w1 hb_g hk_g; have Hg_g := Aside0.mk hg_g; clear hg_g); have hI1 : St RT w1 g s := St.mk hb_g)
    | (((with_reducible refine gate_dst (N := 2) rfl ?_); refine al_ev rfl rfl (N := 2) rfl _ (zeroR _) ?_; intro h hg_h w2 hb_h hk_h; have Hg_h := Aside0.mk hg_h; clear hg_h); have hI2 := hI1.kp hk_h (fun h => h); have hH2 := Bk.mk hb_h; have c0 := hI2.c0; rw [Hm.out] at c0; have K2 : KpN w w2 := hk_g.trans hk_h)
    | ((with_reducible refine gate_dst (N := 17) rfl ?_); refine wpList_load_row rfl 34 _ rfl g rfl _ (s.cells) (0, 0) _ (hI2.blk) Try.underlying34 rfl infoR ?_)
    | ((with_reducible refine gate_store (t := 34) (p := 2) rfl ?_); refine st_ev rfl rfl rfl h (s.cells) _ _ rfl rfl (hH2.blk) infoR rfl (VS.one _) ?_; intro w4 hs_w4 ks_w4))
  refine bodyPost_ret (results_ctt rfl _ _ h s.cells (.int .u64 0) (.bool false) _ rfl rfl rfl hs_w4 Try.underlying34 rfl infoR) rfl ?_
  exact ⟨rfl, K2.then ks_w4 fun i hi (e : i = h) => by have := Hg_h.out; have := hk_g.size; omega⟩
set_option maxHeartbeats 8000000 in
set_option maxRecDepth 100000 in
theorem rsret_no1 (s : VS) (w : World) (hs : s.ok) (hm : s.m = 1) (hb : bitW (s.r 1) 22 = true) :
    Calls Try.prog 22 #[.agg s.cells] w fun e w' => e = .returned (.tuple #[.agg s.cells, .int .u64 0, .bool false]) ∧ KpN w w' := by
  have I : Aside0 (∀ W, Calls Try.prog 26 #[.agg s.cells, .int .i64 22] W fun e w' => e = .returned (.bool true) ∧ KpN W w') := ⟨fun W => by have := is_r s 22 W hs; rw [hb] at this; exact this⟩
  clear hb
  have Hm := Aside0.mk hm
  clear hm hs
  go_enter Try.func22, Try.ntmps22
  go_wp2_with (first
    | (((with_reducible refine gate_dst (N := 1) rfl ?_); refine bx_ev rfl rfl (N := 1) rfl (s.cells) rfl ?_; intro g hg_g w1 hb_g hk_g; have Hg_g := Aside0.mk hg_g; clear hg_g); have hI1 : St RT w1 g s := St.mk hb_g)
    | (((with_reducible refine gate_dst (N := 2) rfl ?_); refine al_ev rfl rfl (N := 2) rfl _ (zeroR _) ?_; intro h hg_h w2 hb_h hk_h; have Hg_h := Aside0.mk hg_h; clear hg_h); have hI2 := hI1.kp hk_h (fun h => h); have hH2 := Bk.mk hb_h; have c0 := hI2.c0; rw [Hm.out] at c0; have K2 : KpN w w2 := hk_g.trans hk_h)
    | ((with_reducible refine gate_dst (N := 13) rfl ?_); refine wpList_in (by rfl) (wp_load_row 34 _ rfl g rfl _ (s.cells) (0, 0) _ (hI2.blk) Try.underlying34 rfl infoR ?_))
    | (go_at_call 26; (with_reducible refine (I.out _).mono ?_); rintro e w3 ⟨rfl, k3⟩; have hI3 := hI2.kp k3 (fun h => h); have hH3 := hH2.kp k3 (fun h => h); have K3 := K2.trans k3)
    | ((with_reducible refine gate_dst (N := 17) rfl ?_); refine wpList_load_row rfl 34 _ rfl g rfl _ (s.cells) (0, 0) _ (hI3.blk) Try.underlying34 rfl infoR ?_)
    | ((with_reducible refine gate_store (t := 34) (p := 2) rfl ?_); refine st_ev rfl rfl rfl h (s.cells) _ _ rfl rfl (hH3.blk) infoR rfl (VS.one _) ?_; intro w4 hs_w4 ks_w4))
  refine bodyPost_ret (results_ctt rfl _ _ h s.cells (.int .u64 0) (.bool false) _ rfl rfl rfl hs_w4 Try.underlying34 rfl infoR) rfl ?_
  exact ⟨rfl, K3.then ks_w4 fun i hi (e : i = h) => by have := Hg_h.out; have := hk_g.size; omega⟩
set_option maxHeartbeats 8000000 in
set_option maxRecDepth 100000 in
theorem rsret_s (s : VS) (w : World) (hs : s.ok) (hm : s.m = 1) (hb : bitW (s.r 1) 22 = false) (r : Nat) (hr : r = s.r 16) :
    Calls Try.prog 22 #[.agg s.cells] w fun e w' => e = .returned (.tuple #[.agg (rsretS s).cells, .int .u64 (r : Int), .bool true]) ∧ KpN w w' := by
  have I8 : Aside0 (∀ W, Calls Try.prog 26 #[.agg s.cells, .int .i64 8] W fun e w' => e = .returned (.bool (bitW (s.r 1) 8)) ∧ KpN W w') := ⟨fun W => is_r s 8 W hs⟩
  have I : Aside0 (∀ W, Calls Try.prog 26 #[.agg s.cells, .int .i64 22] W fun e w' => e = .returned (.bool false) ∧ KpN W w') := ⟨fun W => by have := is_r s 22 W hs; rw [hb] at this; exact this⟩
  clear hb
  obtain ⟨n, hn⟩ : ∃ n, flagW (bitW (s.r 1) 8) = n := ⟨_, rfl⟩
  have hl : n < 2 := by rw [← hn]; cases bitW (s.r 1) 8 <;> decide
  have ew : wrap64 (n : Int) = (n : Int) := by unfold wrap64; omega
  have FL : Aside0 (∀ W, Calls Try.prog 43 #[.bool (bitW (s.r 1) 8)] W fun e w' => e = .returned (.int .u64 (n : Int)) ∧ W = w') := ⟨fun W => by rw [← hn]; exact flag_r _ W⟩
  have ok1 : (s.mode n).ok := hs
  have ok2 := rsetW_ok ok1 1 (bitW (s.r 1) 5)
  have ok3 := rsetW_ok ok2 5 true
  have ok4 := rsetW_ok ok3 8 false
  have iS : ∀ W, Calls Try.prog 26 #[.agg (s.mode n).cells, .int .i64 5] W fun e w' => e = .returned (.bool (bitW (s.r 1) 5)) ∧ KpN W w' := fun W => is_r _ 5 W ok1
  have sS : ∀ W, Calls Try.prog 44 #[.agg (s.mode n).cells, .int .i64 1, .bool (bitW (s.r 1) 5)] W fun e w' => e = .returned (.agg (rsetW (s.mode n) 1 (bitW (s.r 1) 5)).cells) ∧ KpN W w' := fun W => set_r _ 1 _ W ok1
  have s3S : ∀ W, Calls Try.prog 44 #[.agg (rsetW (s.mode n) 1 (bitW (s.r 1) 5)).cells, .int .i64 5, .bool true] W fun e w' => e = .returned (.agg (rsetW (rsetW (s.mode n) 1 (bitW (s.r 1) 5)) 5 true).cells) ∧ KpN W w' := fun W => set_r _ 5 _ W ok2
  have s4S : ∀ W, Calls Try.prog 44 #[.agg (rsetW (rsetW (s.mode n) 1 (bitW (s.r 1) 5)) 5 true).cells, .int .i64 8, .bool false] W fun e w' => e = .returned (.agg (rsetW (rsetW (rsetW (s.mode n) 1 (bitW (s.r 1) 5)) 5 true) 8 false).cells) ∧ KpN W w' := fun W => set_r _ 8 _ W ok3
  have s5S : ∀ W, Calls Try.prog 44 #[.agg (rsetW (rsetW (rsetW (s.mode n) 1 (bitW (s.r 1) 5)) 5 true) 8 false).cells, .int .i64 17, .bool false] W fun e w' => e = .returned (.agg (rsetW (rsetW (rsetW (rsetW (s.mode n) 1 (bitW (s.r 1) 5)) 5 true) 8 false) 17 false).cells) ∧ KpN W w' := fun W => set_r _ 17 _ W ok4
  have hT0 : rsretS s = rsetW (rsetW (rsetW (rsetW (s.mode n) 1 (bitW (s.r 1) 5)) 5 true) 8 false) 17 false := by unfold rsretS; rw [hn]
  have hR0 : r = (rsetW (rsetW (rsetW (rsetW (s.mode n) 1 (bitW (s.r 1) 5)) 5 true) 8 false) 17 false).r 16 := hr
  generalize hs2 : rsetW (s.mode n) 1 (bitW (s.r 1) 5) = s2 at *
  generalize hs3 : rsetW s2 5 true = s3 at *
  generalize hs4 : rsetW s3 8 false = s4 at *
  generalize hs5 : rsetW s4 17 false = sz at *
  have HT := Aside0.mk hT0
  have HR := Aside0.mk hR0
  have Hm := Aside0.mk hm
  have IS := Aside0.mk iS
  have SS := Aside0.mk sS
  have S3 := Aside0.mk s3S
  have S4 := Aside0.mk s4S
  have S5 := Aside0.mk s5S
  clear hm hn hr hs2 hs3 hs4 hs5 hs hT0 hR0 iS sS s3S s4S s5S ok1 ok2 ok3 ok4
  go_enter Try.func22, Try.ntmps22
  go_wp2_with (first
    | (((with_reducible refine gate_dst (N := 1) rfl ?_); refine bx_ev rfl rfl (N := 1) rfl (s.cells) rfl ?_; intro g hg_g w1 hb_g hk_g; have Hg_g := Aside0.mk hg_g; clear hg_g); have hI1 : St RT w1 g s := St.mk hb_g)
    | (((with_reducible refine gate_dst (N := 2) rfl ?_); refine al_ev rfl rfl (N := 2) rfl _ (zeroR _) ?_; intro h hg_h w2 hb_h hk_h; have Hg_h := Aside0.mk hg_h; clear hg_h); have hI2 := hI1.kp hk_h (fun h => h); have hH2 : St RT w2 h (VS.mk 0 fun _ => 0) := St.mk hb_h; have c0 := hI2.c0; rw [Hm.out] at c0; have K2 : KpN w w2 := hk_g.trans hk_h)
    | ((with_reducible refine gate_dst (N := 13) rfl ?_); refine wpList_in (by rfl) (wp_load_row 34 _ rfl g rfl _ (s.cells) (0, 0) _ (hI2.blk) Try.underlying34 rfl infoR ?_))
    | (go_at_call_of 26 (Value.int IntKind.i64 22); (with_reducible refine (I.out _).mono ?_); rintro e w3 ⟨rfl, k3⟩; have hI3 := hI2.kp k3 (fun h => h); have hH3 := hH2.kp k3 (fun h => h); have K3 := K2.trans k3)
    | ((with_reducible refine gate_dst (N := 18) rfl ?_); refine wpList_load_row rfl 34 _ rfl g rfl _ (s.cells) (0, 0) _ (hI3.blk) Try.underlying34 rfl infoR ?_)
    | (go_at_call_of 26 (Value.int IntKind.i64 8); (with_reducible refine (I8.out _).mono ?_); rintro e w4 ⟨rfl, k4⟩; have hI4 := hI3.kp k4 (fun h => h); have hH4 := hH3.kp k4 (fun h => h); have K4 := K3.trans k4; have d0 := hI4.c0; have f0 := hI4.f 0))
  refine (FL.out _).mono ?_
  rintro e wf ⟨rfl, rfl⟩
  have hgh : g ≠ h := by have := Hg_h.out; have := hI1.lt; omega
  have hgw : w.heap.size ≤ g := by have := Hg_g.out; omega
  have hhw : w.heap.size ≤ h := by have := Hg_h.out; have := hk_g.size; omega
  go_wp2_with (fail)
  have hI5 : St RT _ g (s.mode n) := hI4.set0 n
  have k45 := (Kp.refl w4 (fun i => i = g)).setCell (p := ⟨g, 0, none⟩) (.inl rfl) (.int .i64 (n : Int))
  generalize w4.setCell ⟨g, 0, none⟩ (.int .i64 (n : Int)) = w5 at hI5 k45 ⊢
  have hH5 := hH4.kp k45 hgh.symm
  have K5 : KpN w w5 := K4.then k45 fun i hi (e : i = g) => by omega
  clear hI1 hb_g hb_h hk_g hk_h Hg_g Hg_h hI2 hH2 K2 hI4 hH4 K4 k45 d0 f0 c0
  have cQ1 := rg_calls (w := w5) fun W _ => IS.out W
  have cQ2 := rg_calls (w := w5) fun W _ => SS.out W
  have kb : ∀ W, Rg w5 W → W.heap[g]? = some (.cells (s.mode n).cells 34 (0, 0)) := fun W h => (hI5.kp h.kp (fun h => h)).blk
  refine wp_region_rg 4 (by kernel_rfl) (by kernel_rfl) ?_
  simp only [List.take_succ_cons, List.take_zero, List.drop_succ_cons, List.drop_zero]
  refine wpQuiet_ld (C := Rg w5) (by rfl) rfl g rfl 34 (s.mode n).cells _ kb rfl rfl rfl ?_
  refine wpQuiet_ld (C := Rg w5) (by rfl) rfl g rfl 34 (s.mode n).cells _ kb rfl rfl rfl ?_
  clear kb
  repeat (quiet_step (first | with_reducible exact cQ1 _ _ | with_reducible exact cQ2 _ _))
  refine wpQuiet_nil ?_
  intro w6 hw6
  replace hw6 : Rg w5 w6 := hw6
  have hI6 := hI5.kp hw6.kp (fun h => h)
  have hH6 := hH5.kp hw6.kp (fun h => h)
  have K6 := K5.trans hw6.kp
  clear hI5 hH5 K5 hw6 cQ1 cQ2
  go_wp2_with (first
    | (((with_reducible refine gate_store (t := 34) (p := 1) rfl ?_); refine st_ev rfl rfl rfl g (s2.cells) _ _ rfl rfl (hI6.blk) infoR rfl (VS.one _) ?_; intro w7 hs_w7 ks_w7); have hI7 : St RT w7 g s2 := ⟨hs_w7⟩)
    | ((with_reducible refine gate_dst (N := 27) rfl ?_); refine wpList_load_row rfl 34 _ rfl g rfl _ (s2.cells) (0, 0) _ (hI7.blk) Try.underlying34 rfl infoR ?_)
    | (go_at_call 44; (with_reducible refine (S3.out _).mono ?_); rintro e w8 ⟨rfl, k8⟩; have hI8 := hI7.kp k8 (fun h => h))
    | (((with_reducible refine gate_store (t := 34) (p := 1) rfl ?_); refine st_ev rfl rfl rfl g (s3.cells) _ _ rfl rfl (hI8.blk) infoR rfl (VS.one _) ?_; intro w9 hs_w9 ks_w9); have hI9 : St RT w9 g s3 := ⟨hs_w9⟩)
    | ((with_reducible refine gate_dst (N := 29) rfl ?_); refine wpList_load_row rfl 34 _ rfl g rfl _ (s3.cells) (0, 0) _ (hI9.blk) Try.underlying34 rfl infoR ?_)
    | (go_at_call 44; (with_reducible refine (S4.out _).mono ?_); rintro e wa ⟨rfl, ka⟩; have hIa := hI9.kp ka (fun h => h))
    | (((with_reducible refine gate_store (t := 34) (p := 1) rfl ?_); refine st_ev rfl rfl rfl g (s4.cells) _ _ rfl rfl (hIa.blk) infoR rfl (VS.one _) ?_; intro wb hs_wb ks_wb); have hIb : St RT wb g s4 := ⟨hs_wb⟩)
    | ((with_reducible refine gate_dst (N := 31) rfl ?_); refine wpList_load_row rfl 34 _ rfl g rfl _ (s4.cells) (0, 0) _ (hIb.blk) Try.underlying34 rfl infoR ?_)
    | (go_at_call 44; (with_reducible refine (S5.out _).mono ?_); rintro e wc ⟨rfl, kc⟩; have hIc := hIb.kp kc (fun h => h))
    | (((with_reducible refine gate_store (t := 34) (p := 1) rfl ?_); refine st_ev rfl rfl rfl g (sz.cells) _ _ rfl rfl (hIc.blk) infoR rfl (VS.one _) ?_; intro wz hs_wz ks_wz); have hIz : St RT wz g sz := ⟨hs_wz⟩))
  have k6z : Kp w6 wz (fun i => i = g) := ((((((ks_w7.trans (k8.mono fun _ _ h => h.elim)).trans ks_w9).trans (ka.mono fun _ _ h => h.elim)).trans ks_wb).trans (kc.mono fun _ _ h => h.elim)).trans ks_wz)
  have hHz := hH6.kp k6z hgh.symm
  have Kz : KpN w wz := K6.then k6z fun i hi (e : i = g) => by omega
  clear hI6 hH6 K6 k6z hI7 hI8 hI9 hIa hIb hIc hs_w7 ks_w7 k8 hs_w9 ks_w9 ka hs_wb ks_wb kc hs_wz ks_wz
  refine row_out (by kernel_rfl) (by kernel_rfl) rfl rfl rfl rfl rfl rfl rfl (by kernel_rfl) (by kernel_rfl) (by kernel_rfl) (by kernel_rfl) (by kernel_rfl) (by kernel_rfl) (by kernel_rfl) (by kernel_rfl) (by kernel_rfl) (by kernel_rfl) (by kernel_rfl) (by kernel_rfl) (fun _ _ _ _ h => h) (fun _ _ _ _ h => h) (fun _ _ _ _ h => h) (fun _ _ _ _ h => h) rfl rfl rfl rfl rfl Try.underlying34 rfl g h (sz).cells (VS.mk 0 fun _ => 0).cells (.pointer (some ⟨g, 1, none⟩)) (.pointer (some ⟨g, 16, none⟩)) (.int .u64 (r : Int)) infoR rfl (VS.one _) hIz.blk hHz.blk hgh rfl (fun W => by go_simp) (fun W => by go_simp) (fun W hW => ?_) rfl rfl ?_
  · have cW : W.cell? ⟨g, 16, none⟩ = some (.int .u64 (r : Int)) := by rw [HR.out]; exact (St.mk (T := RT) (s := sz) hW).c 16
    go_simp
  intro wy ab a1 a2 hy ky ea1 ea2 ea3
  subst ea1
  subst ea2
  subst ea3
  go_simp
  go_wp2
  refine bodyPost_ret (results_ctt rfl _ _ h (sz).cells (.int .u64 (r : Int)) (.bool true) _ rfl rfl rfl hy Try.underlying34 rfl infoR) rfl ?_
  rw [HT.out]
  exact ⟨rfl, Kz.then ky fun i hi (e : i = h) => by omega⟩
set_option maxHeartbeats 8000000 in
set_option maxRecDepth 100000 in
theorem rsret_m (s : VS) (w : World) (hs : s.ok) (hm : s.m = 3) (r : Nat) (hr : r = s.r 16) :
    Calls Try.prog 22 #[.agg s.cells] w fun e w' => e = .returned (.tuple #[.agg (rsretS s).cells, .int .u64 (r : Int), .bool true]) ∧ KpN w w' := by
  have I8 : Aside0 (∀ W, Calls Try.prog 26 #[.agg s.cells, .int .i64 8] W fun e w' => e = .returned (.bool (bitW (s.r 1) 8)) ∧ KpN W w') := ⟨fun W => is_r s 8 W hs⟩
  obtain ⟨n, hn⟩ : ∃ n, flagW (bitW (s.r 1) 8) = n := ⟨_, rfl⟩
  have hl : n < 2 := by rw [← hn]; cases bitW (s.r 1) 8 <;> decide
  have ew : wrap64 (n : Int) = (n : Int) := by unfold wrap64; omega
  have FL : Aside0 (∀ W, Calls Try.prog 43 #[.bool (bitW (s.r 1) 8)] W fun e w' => e = .returned (.int .u64 (n : Int)) ∧ W = w') := ⟨fun W => by rw [← hn]; exact flag_r _ W⟩
  have ok1 : (s.mode n).ok := hs
  have ok2 := rsetW_ok ok1 1 (bitW (s.r 1) 5)
  have ok3 := rsetW_ok ok2 5 true
  have ok4 := rsetW_ok ok3 8 false
  have iS : ∀ W, Calls Try.prog 26 #[.agg (s.mode n).cells, .int .i64 5] W fun e w' => e = .returned (.bool (bitW (s.r 1) 5)) ∧ KpN W w' := fun W => is_r _ 5 W ok1
  have sS : ∀ W, Calls Try.prog 44 #[.agg (s.mode n).cells, .int .i64 1, .bool (bitW (s.r 1) 5)] W fun e w' => e = .returned (.agg (rsetW (s.mode n) 1 (bitW (s.r 1) 5)).cells) ∧ KpN W w' := fun W => set_r _ 1 _ W ok1
  have s3S : ∀ W, Calls Try.prog 44 #[.agg (rsetW (s.mode n) 1 (bitW (s.r 1) 5)).cells, .int .i64 5, .bool true] W fun e w' => e = .returned (.agg (rsetW (rsetW (s.mode n) 1 (bitW (s.r 1) 5)) 5 true).cells) ∧ KpN W w' := fun W => set_r _ 5 _ W ok2
  have s4S : ∀ W, Calls Try.prog 44 #[.agg (rsetW (rsetW (s.mode n) 1 (bitW (s.r 1) 5)) 5 true).cells, .int .i64 8, .bool false] W fun e w' => e = .returned (.agg (rsetW (rsetW (rsetW (s.mode n) 1 (bitW (s.r 1) 5)) 5 true) 8 false).cells) ∧ KpN W w' := fun W => set_r _ 8 _ W ok3
  have s5S : ∀ W, Calls Try.prog 44 #[.agg (rsetW (rsetW (rsetW (s.mode n) 1 (bitW (s.r 1) 5)) 5 true) 8 false).cells, .int .i64 17, .bool false] W fun e w' => e = .returned (.agg (rsetW (rsetW (rsetW (rsetW (s.mode n) 1 (bitW (s.r 1) 5)) 5 true) 8 false) 17 false).cells) ∧ KpN W w' := fun W => set_r _ 17 _ W ok4
  have hT0 : rsretS s = rsetW (rsetW (rsetW (rsetW (s.mode n) 1 (bitW (s.r 1) 5)) 5 true) 8 false) 17 false := by unfold rsretS; rw [hn]
  have hR0 : r = (rsetW (rsetW (rsetW (rsetW (s.mode n) 1 (bitW (s.r 1) 5)) 5 true) 8 false) 17 false).r 16 := hr
  generalize hs2 : rsetW (s.mode n) 1 (bitW (s.r 1) 5) = s2 at *
  generalize hs3 : rsetW s2 5 true = s3 at *
  generalize hs4 : rsetW s3 8 false = s4 at *
  generalize hs5 : rsetW s4 17 false = sz at *
  have HT := Aside0.mk hT0
  have HR := Aside0.mk hR0
  have Hm := Aside0.mk hm
  have IS := Aside0.mk iS
  have SS := Aside0.mk sS
  have S3 := Aside0.mk s3S
  have S4 := Aside0.mk s4S
  have S5 := Aside0.mk s5S
  clear hm hn hr hs2 hs3 hs4 hs5 hs hT0 hR0 iS sS s3S s4S s5S ok1 ok2 ok3 ok4
  go_enter Try.func22, Try.ntmps22
  go_wp2_with (first
    | (((with_reducible refine gate_dst (N := 1) rfl ?_); refine bx_ev rfl rfl (N := 1) rfl (s.cells) rfl ?_; intro g hg_g w1 hb_g hk_g; have Hg_g := Aside0.mk hg_g; clear hg_g); have hI1 : St RT w1 g s := St.mk hb_g)
    | (((with_reducible refine gate_dst (N := 2) rfl ?_); refine al_ev rfl rfl (N := 2) rfl _ (zeroR _) ?_; intro h hg_h w2 hb_h hk_h; have Hg_h := Aside0.mk hg_h; clear hg_h); have hI2 := hI1.kp hk_h (fun h => h); have hH2 : St RT w2 h (VS.mk 0 fun _ => 0) := St.mk hb_h; have c0 := hI2.c0; rw [Hm.out] at c0; have K2 : KpN w w2 := hk_g.trans hk_h)
    | ((with_reducible refine gate_dst (N := 18) rfl ?_); refine wpList_load_row rfl 34 _ rfl g rfl _ (s.cells) (0, 0) _ (hI2.blk) Try.underlying34 rfl infoR ?_)
    | (go_at_call_of 26 (Value.int IntKind.i64 8); (with_reducible refine (I8.out _).mono ?_); rintro e w4 ⟨rfl, k4⟩; have hI4 := hI2.kp k4 (fun h => h); have hH4 := hH2.kp k4 (fun h => h); have K4 := K2.trans k4; have d0 := hI4.c0; have f0 := hI4.f 0))
  refine (FL.out _).mono ?_
  rintro e wf ⟨rfl, rfl⟩
  have hgh : g ≠ h := by have := Hg_h.out; have := hI1.lt; omega
  have hgw : w.heap.size ≤ g := by have := Hg_g.out; omega
  have hhw : w.heap.size ≤ h := by have := Hg_h.out; have := hk_g.size; omega
  go_wp2_with (fail)
  have hI5 : St RT _ g (s.mode n) := hI4.set0 n
  have k45 := (Kp.refl w4 (fun i => i = g)).setCell (p := ⟨g, 0, none⟩) (.inl rfl) (.int .i64 (n : Int))
  generalize w4.setCell ⟨g, 0, none⟩ (.int .i64 (n : Int)) = w5 at hI5 k45 ⊢
  have hH5 := hH4.kp k45 hgh.symm
  have K5 : KpN w w5 := K4.then k45 fun i hi (e : i = g) => by omega
  clear hI1 hb_g hb_h hk_g hk_h Hg_g Hg_h hI2 hH2 K2 hI4 hH4 K4 k45 d0 f0 c0
  have cQ1 := rg_calls (w := w5) fun W _ => IS.out W
  have cQ2 := rg_calls (w := w5) fun W _ => SS.out W
  have kb : ∀ W, Rg w5 W → W.heap[g]? = some (.cells (s.mode n).cells 34 (0, 0)) := fun W h => (hI5.kp h.kp (fun h => h)).blk
  refine wp_region_rg 4 (by kernel_rfl) (by kernel_rfl) ?_
  simp only [List.take_succ_cons, List.take_zero, List.drop_succ_cons, List.drop_zero]
  refine wpQuiet_ld (C := Rg w5) (by rfl) rfl g rfl 34 (s.mode n).cells _ kb rfl rfl rfl ?_
  refine wpQuiet_ld (C := Rg w5) (by rfl) rfl g rfl 34 (s.mode n).cells _ kb rfl rfl rfl ?_
  clear kb
  repeat (quiet_step (first | with_reducible exact cQ1 _ _ | with_reducible exact cQ2 _ _))
  refine wpQuiet_nil ?_
  intro w6 hw6
  replace hw6 : Rg w5 w6 := hw6
  have hI6 := hI5.kp hw6.kp (fun h => h)
  have hH6 := hH5.kp hw6.kp (fun h => h)
  have K6 := K5.trans hw6.kp
  clear hI5 hH5 K5 hw6 cQ1 cQ2
  go_wp2_with (first
    | (((with_reducible refine gate_store (t := 34) (p := 1) rfl ?_); refine st_ev rfl rfl rfl g (s2.cells) _ _ rfl rfl (hI6.blk) infoR rfl (VS.one _) ?_; intro w7 hs_w7 ks_w7); have hI7 : St RT w7 g s2 := ⟨hs_w7⟩)
    | ((with_reducible refine gate_dst (N := 27) rfl ?_); refine wpList_load_row rfl 34 _ rfl g rfl _ (s2.cells) (0, 0) _ (hI7.blk) Try.underlying34 rfl infoR ?_)
    | (go_at_call 44; (with_reducible refine (S3.out _).mono ?_); rintro e w8 ⟨rfl, k8⟩; have hI8 := hI7.kp k8 (fun h => h))
    | (((with_reducible refine gate_store (t := 34) (p := 1) rfl ?_); refine st_ev rfl rfl rfl g (s3.cells) _ _ rfl rfl (hI8.blk) infoR rfl (VS.one _) ?_; intro w9 hs_w9 ks_w9); have hI9 : St RT w9 g s3 := ⟨hs_w9⟩)
    | ((with_reducible refine gate_dst (N := 29) rfl ?_); refine wpList_load_row rfl 34 _ rfl g rfl _ (s3.cells) (0, 0) _ (hI9.blk) Try.underlying34 rfl infoR ?_)
    | (go_at_call 44; (with_reducible refine (S4.out _).mono ?_); rintro e wa ⟨rfl, ka⟩; have hIa := hI9.kp ka (fun h => h))
    | (((with_reducible refine gate_store (t := 34) (p := 1) rfl ?_); refine st_ev rfl rfl rfl g (s4.cells) _ _ rfl rfl (hIa.blk) infoR rfl (VS.one _) ?_; intro wb hs_wb ks_wb); have hIb : St RT wb g s4 := ⟨hs_wb⟩)
    | ((with_reducible refine gate_dst (N := 31) rfl ?_); refine wpList_load_row rfl 34 _ rfl g rfl _ (s4.cells) (0, 0) _ (hIb.blk) Try.underlying34 rfl infoR ?_)
    | (go_at_call 44; (with_reducible refine (S5.out _).mono ?_); rintro e wc ⟨rfl, kc⟩; have hIc := hIb.kp kc (fun h => h))
    | (((with_reducible refine gate_store (t := 34) (p := 1) rfl ?_); refine st_ev rfl rfl rfl g (sz.cells) _ _ rfl rfl (hIc.blk) infoR rfl (VS.one _) ?_; intro wz hs_wz ks_wz); have hIz : St RT wz g sz := ⟨hs_wz⟩))
  have k6z : Kp w6 wz (fun i => i = g) := ((((((ks_w7.trans (k8.mono fun _ _ h => h.elim)).trans ks_w9).trans (ka.mono fun _ _ h => h.elim)).trans ks_wb).trans (kc.mono fun _ _ h => h.elim)).trans ks_wz)
  have hHz := hH6.kp k6z hgh.symm
  have Kz : KpN w wz := K6.then k6z fun i hi (e : i = g) => by omega
  clear hI6 hH6 K6 k6z hI7 hI8 hI9 hIa hIb hIc hs_w7 ks_w7 k8 hs_w9 ks_w9 ka hs_wb ks_wb kc hs_wz ks_wz
  refine row_out (by kernel_rfl) (by kernel_rfl) rfl rfl rfl rfl rfl rfl rfl (by kernel_rfl) (by kernel_rfl) (by kernel_rfl) (by kernel_rfl) (by kernel_rfl) (by kernel_rfl) (by kernel_rfl) (by kernel_rfl) (by kernel_rfl) (by kernel_rfl) (by kernel_rfl) (by kernel_rfl) (fun _ _ _ _ h => h) (fun _ _ _ _ h => h) (fun _ _ _ _ h => h) (fun _ _ _ _ h => h) rfl rfl rfl rfl rfl Try.underlying34 rfl g h (sz).cells (VS.mk 0 fun _ => 0).cells (.pointer (some ⟨g, 1, none⟩)) (.pointer (some ⟨g, 16, none⟩)) (.int .u64 (r : Int)) infoR rfl (VS.one _) hIz.blk hHz.blk hgh rfl (fun W => by go_simp) (fun W => by go_simp) (fun W hW => ?_) rfl rfl ?_
  · have cW : W.cell? ⟨g, 16, none⟩ = some (.int .u64 (r : Int)) := by rw [HR.out]; exact (St.mk (T := RT) (s := sz) hW).c 16
    go_simp
  intro wy ab a1 a2 hy ky ea1 ea2 ea3
  subst ea1
  subst ea2
  subst ea3
  go_simp
  go_wp2
  refine bodyPost_ret (results_ctt rfl _ _ h (sz).cells (.int .u64 (r : Int)) (.bool true) _ rfl rfl rfl hy Try.underlying34 rfl infoR) rfl ?_
  rw [HT.out]
  exact ⟨rfl, Kz.then ky fun i hi (e : i = h) => by omega⟩
theorem rsret_c (s : VS) (w : World) (hs : s.ok) (hm : modeOk s) :
    Calls Try.prog 22 #[.agg s.cells] w fun e w' => e = .returned (.tuple #[.agg (if sretB s = true then rsretS s else s).cells, .int .u64 ((if sretB s = true then s.r 16 else 0 : Nat) : Int), .bool (sretB s)]) ∧ KpN w w' := by
  have no : ∀ (h : s.m = 0 ∨ (s.m = 1 ∧ bitW (s.r 1) 22 = true)), sretB s = false := fun h => decide_eq_false (fun q => q h)
  have yes : ∀ (h : ¬ (s.m = 0 ∨ (s.m = 1 ∧ bitW (s.r 1) 22 = true))), sretB s = true := fun h => decide_eq_true h
  rcases hm with hm | hm | hm
  · rw [no (.inl hm)]
    exact rsret_no0 s w hs hm
  · cases hb : bitW (s.r 1) 22
    · rw [yes (by rw [hm, hb]; simp), if_pos rfl, if_pos rfl]
      exact rsret_s s w hs hm hb _ rfl
    · rw [no (.inr ⟨hm, hb⟩)]
      exact rsret_no1 s w hs hm hb
  · rw [yes (by rw [hm]; simp), if_pos rfl, if_pos rfl]
    exact rsret_m s w hs hm _ rfl
theorem rmret_c (s : VS) (w : World) (hs : s.ok) :
    Calls Try.prog 24 #[.agg s.cells] w fun e w' => e = .returned (.tuple #[.agg (if s.m = 3 then rmretS s (mppW s) else s).cells, .int .u64 ((if s.m = 3 then s.r 10 else 0 : Nat) : Int), .bool (decide (s.m = 3))]) ∧ KpN w w' := by
  by_cases hm : s.m = 3
  · rw [if_pos hm, if_pos hm, decide_eq_true hm]
    by_cases h3 : mppW s = 3
    · exact rmret_three s w hs hm (mppW s) rfl h3 _ rfl
    · exact rmret_less s w hs hm (mppW s) rfl h3 _ rfl
  · rw [if_neg hm, if_neg hm, decide_eq_false hm]
    exact rmret_no s w hm
end Go.Proofs.Ytnknfepbekaobaa.H
/- The document's answer for traps (vireoref09), walked by hand: the causes of faults; the page's example. -/
namespace Go.Proofs.Ytnknfepbekaobaa.H
open Go.RowKit Go.Proofs.YtnknfepbekaobaaW.PrintWords Go.Proofs.YtnknfepbekaobaaW.PrintLast Go.Proofs.Ytnknfepbekaobaa.PAl Go.Proofs.Ytnknfepbekaobaa.Pure Go.Proofs.Ytnknfepbekaobaa.Vw
set_option linter.unusedVariables false
set_option linter.unusedSimpArgs false
def kKind (k : Int) : Nat := if k = 0 then 0 else if k = 1 then 1 else 2
def rfaultW (k : Int) (y : Nat) : Int := if kKind k = 0 then (if y = 0 then 1 else if y = 1 then 12 else 0) else if kKind k = 1 then (if y = 0 then 5 else if y = 1 then 13 else 4) else (if y = 0 then 7 else if y = 1 then 15 else 6)
theorem kind_cases (k : Int) : ((k == 0) = true ∧ (k == 1) = false ∧ kKind k = 0) ∨ ((k == 0) = false ∧ (k == 1) = true ∧ kKind k = 1) ∨ ((k == 0) = false ∧ (k == 1) = false ∧ kKind k = 2) := by
  unfold kKind
  by_cases h : k = 0
  · exact .inl ⟨beq_iff_eq.2 h, beq_eq_false_iff_ne.2 (by omega), if_pos h⟩
  by_cases h1 : k = 1
  · exact .inr (.inl ⟨beq_eq_false_iff_ne.2 h, beq_iff_eq.2 h1, by rw [if_neg h, if_pos h1]⟩)
  · exact .inr (.inr ⟨beq_eq_false_iff_ne.2 h, beq_eq_false_iff_ne.2 h1, by rw [if_neg h, if_neg h1]⟩)
set_option maxHeartbeats 8000000 in
set_option maxRecDepth 100000 in
theorem fault_r0 (k : Int) (w : World) :
    Calls Try.prog 30 #[.int .i64 k, .int .i64 0] w fun e w' => e = .returned (.int .i64 (rfaultW k 0)) ∧ KpN w w' := by
  have hk := kind_cases k
  unfold rfaultW
  rcases hk with ⟨t1, t2, q⟩ | ⟨t1, t2, q⟩ | ⟨t1, t2, q⟩
  all_goals
    rw [q]; clear q
    go_enter Try.func30, Try.ntmps30
    go_wp2
    go_ret
    exact ⟨rfl, ((((Kp.refl _ _).alloc _).alloc _).alloc _).alloc _⟩
set_option maxHeartbeats 8000000 in
set_option maxRecDepth 100000 in
theorem fault_r1 (k : Int) (w : World) :
    Calls Try.prog 30 #[.int .i64 k, .int .i64 1] w fun e w' => e = .returned (.int .i64 (rfaultW k 1)) ∧ KpN w w' := by
  have hk := kind_cases k
  unfold rfaultW
  rcases hk with ⟨t1, t2, q⟩ | ⟨t1, t2, q⟩ | ⟨t1, t2, q⟩
  all_goals
    rw [q]; clear q
    go_enter Try.func30, Try.ntmps30
    go_wp2
    go_ret
    exact ⟨rfl, ((((Kp.refl _ _).alloc _).alloc _).alloc _).alloc _⟩
set_option maxHeartbeats 8000000 in
set_option maxRecDepth 100000 in
theorem fault_r2 (k : Int) (w : World) :
    Calls Try.prog 30 #[.int .i64 k, .int .i64 2] w fun e w' => e = .returned (.int .i64 (rfaultW k 2)) ∧ KpN w w' := by
  have hk := kind_cases k
  unfold rfaultW
  rcases hk with ⟨t1, t2, q⟩ | ⟨t1, t2, q⟩ | ⟨t1, t2, q⟩
  all_goals
    rw [q]; clear q
    go_enter Try.func30, Try.ntmps30
    go_wp2
    go_ret
    exact ⟨rfl, ((((Kp.refl _ _).alloc _).alloc _).alloc _).alloc _⟩
end Go.Proofs.Ytnknfepbekaobaa.H
/- Traps in plain Lean: the code's state is the document's; there and back. No program in sight. -/
namespace Go.Proofs.Ytnknfepbekaobaa.H
open Go.RowKit Go.Proofs.YtnknfepbekaobaaW.PrintWords Go.Proofs.YtnknfepbekaobaaW.PrintLast Go.Proofs.Ytnknfepbekaobaa.PAl Go.Proofs.Ytnknfepbekaobaa.Pure Go.Proofs.Ytnknfepbekaobaa.Vw
set_option linter.unusedVariables false
set_option linter.unusedSimpArgs false
theorem Rel.setS {f w : VS} (h : Rel f w) (hf : f.ok) {b : Nat} (hb : b ≤ 63) (is : Bool) : Rel (setW f b is) (rsetW w (b : Int) is) := by
  have e0 : f.r 1 = w.r 1 := h.r 0 (by decide)
  unfold setW rsetW
  cases is
  · rw [show flagW false = 0 from rfl, ← e0, put_nought (hf 1) hb]
    exact h.set 0 (by decide) _
  · rw [show flagW true = 1 from rfl, ← e0, put_one (hf 1) hb]
    exact h.set 0 (by decide) _
theorem Rel.r1 {f w : VS} (h : Rel f w) : f.r 1 = w.r 1 := h.r 0 (by decide)
theorem Rel.deleg {f w : VS} (h : Rel f w) (c : Nat) (b : Bool) : delegW f c b = rdelegW w c b := by
  unfold delegW rdelegW
  rw [h.m]
  have e2 : f.r 2 = w.r 4 := h.r 3 (by decide)
  have e3 : f.r 3 = w.r 5 := h.r 4 (by decide)
  cases b
  · show (if w.m = 3 then false else bitW (f.r 2) c) = if w.m = 3 then false else bitW (w.r 4) c
    rw [e2]
  · show (if w.m = 3 then false else bitW (f.r 3) c) = if w.m = 3 then false else bitW (w.r 5) c
    rw [e3]
theorem Rel.entS {f w : VS} (h : Rel f w) (hf : f.ok) {c v pc : Nat} (hc : c < 64) (hv : U v) (hp : U pc) (b : Bool) : Rel (entS f c v b pc) (rentS w c v b pc) := by
  have h0 : Rel (((f.set 17 (codeW c b)).set 16 (minus pc 3)).set 18 v) (((w.set 17 (codeW c b)).set 16 (minus pc 3)).set 18 v) := ((h.set 16 (by decide) _).set 15 (by decide) _).set 17 (by decide) _
  have o0 := ent0_ok hf hc hv hp b 17 16 18
  have h1 := h0.setS o0 (show 5 ≤ 63 by decide) (bitW (f.r 1) 1)
  have o1 := setW_ok o0 (show 5 ≤ 63 by decide) (bitW (f.r 1) 1)
  have h2 := h1.setS o1 (show 1 ≤ 63 by decide) false
  have o2 := setW_ok o1 (show 1 ≤ 63 by decide) false
  have h3 := h2.setS o2 (show 8 ≤ 63 by decide) (f.m == 1)
  have := h3.mode 1
  unfold Go.Proofs.Ytnknfepbekaobaa.H.entS rentS
  rw [← h.r1, ← h.m]
  exact this
theorem Rel.entM {f w : VS} (h : Rel f w) (hf : f.ok) {c v pc : Nat} (hc : c < 64) (hv : U v) (hp : U pc) (b : Bool) (k : Nat) : Rel (entM f c v b pc k) (rentM w c v b pc k) := by
  have h0 : Rel (((f.set 11 (codeW c b)).set 10 (minus pc 3)).set 12 v) (((w.set 11 (codeW c b)).set 10 (minus pc 3)).set 12 v) := ((h.set 10 (by decide) _).set 9 (by decide) _).set 11 (by decide) _
  have o0 := ent0_ok hf hc hv hp b 11 10 12
  have h1 := h0.setS o0 (show 7 ≤ 63 by decide) (bitW (f.r 1) 3)
  have o1 := setW_ok o0 (show 7 ≤ 63 by decide) (bitW (f.r 1) 3)
  have h2 := h1.setS o1 (show 3 ≤ 63 by decide) false
  have e := h2.r1
  unfold Go.Proofs.Ytnknfepbekaobaa.H.entM rentM keepW
  rw [e, ← h.r1]
  exact ((h2.set 0 (by decide) _)).mode 3
theorem Rel.setq {f w : VS} (h : Rel f w) : setqW f = rsetqW w := by
  have e5 : f.r 5 = w.r 2 := h.r 1 (by decide)
  have e6 : f.r 6 = w.r 3 := h.r 2 (by decide)
  have e4 : f.r 4 = w.r 6 := h.r 5 (by decide)
  unfold setqW rsetqW pendW rpendW
  rw [e5, e6, e4]
theorem Rel.next {f w : VS} (h : Rel f w) : nextN f = rnextN w := by
  have e3 : f.r 3 = w.r 5 := h.r 4 (by decide)
  rw [nextN_eq]; unfold rnextN
  rw [h.setq, e3, h.r1, h.m]
theorem nextC_eq (f : VS) : nextC f = nC (nextN f) := rfl
theorem Rel.mret {f w : VS} (h : Rel f w) (hf : f.ok) (k : Nat) (hk : mppW f = k) : Rel (mretS f) (rmretS w k) := by
  subst hk
  have key : ∀ k : Int, Rel (keepW (setW (setW (f.mode k) 3 (bitW (f.r 1) 7)) 7 true) 0) ((rsetW (rsetW (w.mode k) 3 (bitW (w.r 1) 7)) 7 true).set 1 (putW ((rsetW (rsetW (w.mode k) 3 (bitW (w.r 1) 7)) 7 true).r 1) 11 2 0)) := fun k => by
    have h1 := (h.mode k).setS (show (f.mode k).ok from hf) (show 3 ≤ 63 by decide) (bitW (f.r 1) 7)
    have o1 := setW_ok (show (f.mode k).ok from hf) (show 3 ≤ 63 by decide) (bitW (f.r 1) 7)
    have h2 := h1.setS o1 (show 7 ≤ 63 by decide) true
    have e := h2.r1
    unfold keepW
    rw [e, ← h.r1]
    exact h2.set 0 (by decide) _
  by_cases h3 : mppW f = 3
  · unfold mretS rmretS
    rw [if_pos h3, if_pos h3, h3]
    exact key 3
  · unfold mretS rmretS
    rw [if_neg h3, if_neg h3]
    exact (key (mppW f)).setS (keepW_ok (setW_ok (setW_ok (show (f.mode _).ok from hf) (by decide) _) (by decide) _) 0) (show 17 ≤ 63 by decide) false
theorem Rel.mpp {f w : VS} (h : Rel f w) : mppW f = mppW w := by unfold mppW; rw [h.r1]
theorem Rel.sretB {f w : VS} (h : Rel f w) : sretB f = sretB w := by unfold Go.Proofs.Ytnknfepbekaobaa.H.sretB; rw [h.m, h.r1]
theorem Rel.sret {f w : VS} (h : Rel f w) (hf : f.ok) : Rel (sretS f) (rsretS w) := by
  unfold sretS rsretS
  have em : (if bitW (f.r 1) 8 = true then (1 : Int) else 0) = ((flagW (bitW (w.r 1) 8) : Nat) : Int) := by
    rw [h.r1]; cases bitW (w.r 1) 8 <;> rfl
  rw [em]
  have h1 := (h.mode ((flagW (bitW (w.r 1) 8) : Nat) : Int)).setS (show (f.mode _).ok from hf) (show 1 ≤ 63 by decide) (bitW (f.r 1) 5)
  have o1 := setW_ok (show (f.mode ((flagW (bitW (w.r 1) 8) : Nat) : Int)).ok from hf) (show 1 ≤ 63 by decide) (bitW (f.r 1) 5)
  have h2 := h1.setS o1 (show 5 ≤ 63 by decide) true
  have o2 := setW_ok o1 (show 5 ≤ 63 by decide) true
  have h3 := h2.setS o2 (show 8 ≤ 63 by decide) false
  have o3 := setW_ok o2 (show 8 ≤ 63 by decide) false
  have h4 := h3.setS o3 (show 17 ≤ 63 by decide) false
  rw [h.r1] at h4 ⊢
  exact h4
/-! bits -/
theorem bit_set (s : VS) {b : Nat} (hb : b ≤ 63) (is : Bool) (n : Nat) (hn : n ≤ 63) : bitW ((setW s b is).r 1) (n : Int) = if n = b then is else bitW (s.r 1) (n : Int) := by
  show bitW (if is then s.r 1 ||| 2 ^ b else minus (s.r 1) (2 ^ b)) (n : Int) = _
  unfold bitW minus
  rw [decide_eq_true (show (0 : Int) ≤ (n : Int) ∧ (n : Int) ≤ 63 by omega), Int.toNat_natCast]
  cases is
  · rw [if_neg (by decide), Nat.testBit_and, tb_not _ _ (U.pow hb).lt, Nat.testBit_two_pow]
    by_cases h : n = b
    · subst h; simp
    · rw [if_neg h]; have hb' : decide (b = n) = false := decide_eq_false (fun e => h e.symm)
      have h64 : decide (n < 64) = true := decide_eq_true (by omega)
      rw [hb', h64]; simp
  · rw [if_pos rfl, Nat.testBit_or, Nat.testBit_two_pow]
    by_cases h : n = b
    · subst h; simp
    · rw [if_neg h]; have hb' : decide (b = n) = false := decide_eq_false (fun e => h e.symm)
      rw [hb']; simp
theorem bit_keep (s : VS) (k : Nat) (n : Nat) (hn : n ≤ 63) (h : n ≠ 11 ∧ n ≠ 12) : bitW ((keepW s k).r 1) (n : Int) = bitW (s.r 1) (n : Int) := by
  show bitW (putW (s.r 1) 11 2 k) (n : Int) = _
  have h3 := tbP (s.r 1) 11 2 k n (by decide) (by decide)
  rw [show ((11 : Nat) : Int) = 11 from rfl, show ((2 : Nat) : Int) = 2 from rfl] at h3
  unfold bitW
  rw [Int.toNat_natCast, h3, if_neg (by omega), decide_eq_true (show n < 64 by omega), Bool.true_and]
theorem get_bits (x y : Nat) (h : ∀ i : Nat, 11 ≤ i → i < 13 → bitW x (i : Int) = bitW y (i : Int)) : getW x 11 2 = getW y 11 2 := by
  have hl : ∀ z : Nat, getW z 11 2 < 2 ^ 2 := fun z => by unfold getW; rw [if_pos (by decide)]; exact Nat.mod_lt _ (by decide)
  apply eq_of_bits (n := 2) (hl x) (hl y)
  intro i hi
  have h2 := tb_getW x 11 2 i
  have h3 := tb_getW y 11 2 i
  have := h (11 + i) (by omega) (by omega)
  unfold bitW at this
  rw [decide_eq_true (show (0 : Int) ≤ ((11 + i : Nat) : Int) ∧ ((11 + i : Nat) : Int) ≤ 63 by omega), Bool.true_and, Bool.true_and, Int.toNat_natCast] at this
  rw [h2, h3, show (11 : Int).toNat = 11 from rfl, this]
theorem mpp_set (s : VS) {b : Nat} (hb : b ≤ 63) (h : b ≠ 11 ∧ b ≠ 12) (is : Bool) : mppW (setW s b is) = mppW s :=
  get_bits _ _ fun i h1 h2 => by rw [bit_set s hb is i (by omega), if_neg (by omega)]
theorem mpp_keep (s : VS) (hs : s.ok) {k : Nat} (hk : k ≤ 3) : mppW (keepW s k) = k := get_put_mode (hs 1) hk
/-! there and back -/
theorem back_s (s : VS) (hs : s.ok) (c v : Nat) (b : Bool) (pc : Nat) (hm : s.m = 0 ∨ s.m = 1) (ht : bitW (s.r 1) 22 = false) :
    sretB (entS s c v b pc) = true ∧ (entS s c v b pc).r 16 = minus pc 3 ∧ (sretS (entS s c v b pc)).m = s.m ∧ bitW ((sretS (entS s c v b pc)).r 1) 1 = bitW (s.r 1) 1 ∧ bitW ((sretS (entS s c v b pc)).r 1) 3 = bitW (s.r 1) 3 := by
  have e : ∀ n : Nat, n ≤ 63 → bitW ((entS s c v b pc).r 1) (n : Int) = if n = 8 then (s.m == 1) else if n = 1 then false else if n = 5 then bitW (s.r 1) 1 else bitW (s.r 1) (n : Int) := fun n hn => by
    show bitW ((setW (setW (setW (((s.set 17 (codeW c b)).set 16 (minus pc 3)).set 18 v) 5 (bitW (s.r 1) 1)) 1 false) 8 (s.m == 1)).r 1) (n : Int) = _
    rw [bit_set _ (by decide) _ n hn, bit_set _ (by decide) _ n hn, bit_set _ (by decide) _ n hn]
    rfl
  have e22 : bitW ((entS s c v b pc).r 1) 22 = false := (e 22 (by decide)).trans ht
  have e8 : bitW ((entS s c v b pc).r 1) 8 = (s.m == 1) := e 8 (by decide)
  have e5 : bitW ((entS s c v b pc).r 1) 5 = bitW (s.r 1) 1 := e 5 (by decide)
  have e3 : bitW ((entS s c v b pc).r 1) 3 = bitW (s.r 1) 3 := e 3 (by decide)
  have em : (entS s c v b pc).m = 1 := rfl
  have q : ∀ n : Nat, n ≤ 63 → bitW ((sretS (entS s c v b pc)).r 1) (n : Int) = if n = 17 then false else if n = 8 then false else if n = 5 then true else if n = 1 then bitW ((entS s c v b pc).r 1) 5 else bitW ((entS s c v b pc).r 1) (n : Int) := fun n hn => by
    unfold sretS
    rw [bit_set _ (by decide) _ n hn, bit_set _ (by decide) _ n hn, bit_set _ (by decide) _ n hn, bit_set _ (by decide) _ n hn]
    rfl
  refine ⟨?_, rfl, ?_, ?_, ?_⟩
  · unfold sretB; rw [em, e22]; decide
  · show (if bitW ((entS s c v b pc).r 1) 8 = true then (1 : Int) else 0) = s.m
    rw [e8]
    rcases hm with hm | hm <;> rw [hm] <;> decide
  · exact (q 1 (by decide)).trans e5
  · exact (q 3 (by decide)).trans e3
theorem back_m (s : VS) (hs : s.ok) (c v : Nat) (b : Bool) (pc n : Nat) (hc : c < 64) (hv : U v) (hp : U pc) (hn : n ≤ 3) (hm : s.m = (n : Int)) :
    (entM s c v b pc n).m = 3 ∧ (entM s c v b pc n).r 10 = minus pc 3 ∧ (mretS (entM s c v b pc n)).m = s.m ∧ bitW ((mretS (entM s c v b pc n)).r 1) 1 = bitW (s.r 1) 1 ∧ bitW ((mretS (entM s c v b pc n)).r 1) 3 = bitW (s.r 1) 3 := by
  have o0 := ent0_ok hs hc hv hp b 11 10 12
  have o2 := setW_ok (setW_ok o0 (show 7 ≤ 63 by decide) (bitW (s.r 1) 3)) (show 3 ≤ 63 by decide) false
  have hmpp : mppW (entM s c v b pc n) = n := mpp_keep _ o2 hn
  have e : ∀ k : Nat, k ≤ 63 → k ≠ 11 ∧ k ≠ 12 → bitW ((entM s c v b pc n).r 1) (k : Int) = if k = 3 then false else if k = 7 then bitW (s.r 1) 3 else bitW (s.r 1) (k : Int) := fun k hk hk' => by
    show bitW ((keepW (setW (setW (((s.set 11 (codeW c b)).set 10 (minus pc 3)).set 12 v) 7 (bitW (s.r 1) 3)) 3 false) n).r 1) (k : Int) = _
    rw [bit_keep _ n k hk hk', bit_set _ (by decide) _ k hk, bit_set _ (by decide) _ k hk]
    rfl
  have e7 : bitW ((entM s c v b pc n).r 1) 7 = bitW (s.r 1) 3 := e 7 (by decide) (by decide)
  have e1 : bitW ((entM s c v b pc n).r 1) 1 = bitW (s.r 1) 1 := e 1 (by decide) (by decide)
  refine ⟨rfl, rfl, ?_, ?_, ?_⟩
  · unfold mretS
    rw [hmpp]
    split
    · next h => show (3 : Int) = s.m; rw [hm, h]; rfl
    · exact hm.symm
  · unfold mretS
    split
    · rw [show (1 : Int) = ((1 : Nat) : Int) from rfl, bit_keep _ 0 1 (by decide) (by decide), bit_set _ (by decide) _ 1 (by decide), bit_set _ (by decide) _ 1 (by decide)]
      exact e1
    · rw [show (1 : Int) = ((1 : Nat) : Int) from rfl, bit_set _ (by decide) _ 1 (by decide), bit_keep _ 0 1 (by decide) (by decide), bit_set _ (by decide) _ 1 (by decide), bit_set _ (by decide) _ 1 (by decide)]
      exact e1
  · unfold mretS
    split
    · rw [show (3 : Int) = ((3 : Nat) : Int) from rfl, bit_keep _ 0 3 (by decide) (by decide), bit_set _ (by decide) _ 3 (by decide), bit_set _ (by decide) _ 3 (by decide)]
      exact e7
    · rw [show (3 : Int) = ((3 : Nat) : Int) from rfl, bit_set _ (by decide) _ 3 (by decide), bit_keep _ 0 3 (by decide) (by decide), bit_set _ (by decide) _ 3 (by decide), bit_set _ (by decide) _ 3 (by decide)]
      exact e7
/-! what is taken is pending, and allowed -/
theorem firstL_bit (x : Nat) : ∀ l : List Int, (∀ n ∈ l, 0 ≤ n ∧ n ≤ 63) → firstL x l = -1 ∨ (0 ≤ firstL x l ∧ firstL x l ≤ 63 ∧ bitW x (firstL x l) = true)
  | [], _ => .inl rfl
  | n :: l, h => by
    unfold firstL
    by_cases hb : bitW x n = true
    · rw [if_pos hb]; exact .inr ⟨(h n (by simp)).1, (h n (by simp)).2, hb⟩
    · rw [if_neg hb]; exact firstL_bit x l fun k hk => h k (by simp [hk])
theorem firstW_bit (x : Nat) : firstW x = -1 ∨ (0 ≤ firstW x ∧ firstW x ≤ 63 ∧ bitW x (firstW x) = true) := firstL_bit x intsL (by decide)
theorem bit_and {x y : Nat} {n : Int} (h : bitW (x &&& y) n = true) : bitW x n = true ∧ bitW y n = true := by
  unfold bitW at *
  rw [Nat.testBit_and] at h
  simp only [Bool.and_eq_true] at *
  exact ⟨⟨h.1, h.2.1⟩, ⟨h.1, h.2.2⟩⟩
theorem bit_min {x y : Nat} (hy : U y) {n : Int} (h : bitW (minus x y) n = true) : bitW x n = true ∧ bitW y n = false := by
  unfold bitW minus at *
  rw [Nat.testBit_and, tb_not _ _ hy.lt] at h
  simp only [Bool.and_eq_true, Bool.not_eq_true', Bool.and_eq_false_imp] at *
  exact ⟨⟨h.1, h.2.1⟩, fun _ => h.2.2.2⟩
theorem next_bit {s : VS} (hs : s.ok) (h : 0 ≤ nextN s) : nextN s ≤ 63 ∧ bitW (pendW s) (nextN s) = true ∧ bitW (s.r 4) (nextN s) = true ∧ (s.m = 3 → bitW (s.r 1) 3 = true) := by
  have o := firstW_bit (minus (setqW s) (s.r 3))
  have r := firstW_bit (setqW s &&& s.r 3)
  rw [nextN_eq] at *
  unfold nextI at *
  by_cases hc : s.m < 3 ∨ bitW (s.r 1) 3 = true
  · rw [if_pos hc] at *
    have h3 : s.m = 3 → bitW (s.r 1) 3 = true := fun e => by rcases hc with q | q; omega; exact q
    by_cases hd : firstW (minus (setqW s) (s.r 3)) < 0 ∧ (s.m < 1 ∨ (s.m = 1 ∧ bitW (s.r 1) 1 = true))
    · rw [if_pos hd] at *
      rcases r with r | ⟨r1, r2, r3⟩
      · rw [r] at h; omega
      · have := bit_and (bit_and r3).1; exact ⟨r2, this.1, this.2, h3⟩
    · rw [if_neg hd] at *
      rcases o with o | ⟨o1, o2, o3⟩
      · rw [o] at h; omega
      · have := bit_and (bit_min (hs 3) o3).1; exact ⟨o2, this.1, this.2, h3⟩
  · rw [if_neg hc] at *
    by_cases hd : (-1 : Int) < 0 ∧ (s.m < 1 ∨ (s.m = 1 ∧ bitW (s.r 1) 1 = true))
    · exfalso; apply hc; left; rcases hd.2 with q | q <;> omega
    · rw [if_neg hd] at h; omega
theorem again_m (s : VS) (hs : s.ok) (c v : Nat) (b : Bool) (pc n : Nat) : nextN (entM s c v b pc n) < 0 := by
  have em : (entM s c v b pc n).m = 3 := rfl
  have e3 : bitW ((entM s c v b pc n).r 1) 3 = false := by
    show bitW ((keepW (setW (setW (((s.set 11 (codeW c b)).set 10 (minus pc 3)).set 12 v) 7 (bitW (s.r 1) 3)) 3 false) n).r 1) ((3 : Nat) : Int) = _
    rw [bit_keep _ n 3 (by decide) (by decide), bit_set _ (by decide) _ 3 (by decide), if_pos rfl]
  rw [nextN_eq]; unfold nextI
  rw [em, e3]
  generalize firstW (minus (setqW (Go.Proofs.Ytnknfepbekaobaa.H.entM s c v b pc n)) ((Go.Proofs.Ytnknfepbekaobaa.H.entM s c v b pc n).r 3)) = x
  generalize firstW (setqW (Go.Proofs.Ytnknfepbekaobaa.H.entM s c v b pc n) &&& (Go.Proofs.Ytnknfepbekaobaa.H.entM s c v b pc n).r 3) = y
  rw [if_neg (show ¬ ((3 : Int) < 3 ∨ false = true) by decide), if_neg (by rintro ⟨_, q | q⟩; exact absurd q (by decide); exact absurd q.1 (by decide))]
  decide
theorem again_s (s : VS) (hs : s.ok) (c v : Nat) (b : Bool) (pc : Nat) (h : 0 ≤ nextN (entS s c v b pc)) : nextN (entS s c v b pc) ≤ 63 ∧ bitW ((entS s c v b pc).r 3) (nextN (entS s c v b pc)) = false := by
  have em : (entS s c v b pc).m = 1 := rfl
  have e1 : bitW ((entS s c v b pc).r 1) 1 = false := by
    show bitW ((setW (setW (setW (((s.set 17 (codeW c b)).set 16 (minus pc 3)).set 18 v) 5 (bitW (s.r 1) 1)) 1 false) 8 (s.m == 1)).r 1) ((1 : Nat) : Int) = _
    rw [bit_set _ (by decide) _ 1 (by decide), bit_set _ (by decide) _ 1 (by decide), if_neg (by decide), if_pos rfl]
  have h3 : U ((entS s c v b pc).r 3) := hs 3
  have o := firstW_bit (minus (setqW (entS s c v b pc)) ((entS s c v b pc).r 3))
  have key : nextN (entS s c v b pc) = firstW (minus (setqW (entS s c v b pc)) ((entS s c v b pc).r 3)) := by
    rw [nextN_eq]; unfold nextI
    rw [em, e1, if_pos (show (1 : Int) < 3 ∨ bitW ((Go.Proofs.Ytnknfepbekaobaa.H.entS s c v b pc).r 1) 3 = true from .inl (by decide)), if_neg (by rintro ⟨_, q | q⟩; exact absurd q (by decide); exact absurd q.2 (by decide))]
  rw [key] at h ⊢
  rcases o with o | ⟨o1, o2, o3⟩
  · rw [o] at h; omega
  · exact ⟨o2, (bit_min h3 o3).2⟩
end Go.Proofs.Ytnknfepbekaobaa.H
/- The statements of the traps: the page's example; may a trap be? Walked by hand. -/
namespace Go.Proofs.Ytnknfepbekaobaa.H
open Go.RowKit Go.Proofs.YtnknfepbekaobaaW.PrintWords Go.Proofs.YtnknfepbekaobaaW.PrintLast Go.Proofs.Ytnknfepbekaobaa.PAl Go.Proofs.Ytnknfepbekaobaa.Pure Go.Proofs.Ytnknfepbekaobaa.Vw
set_option linter.unusedVariables false
set_option linter.unusedSimpArgs false
theorem infoS : (Try.prog.info? 25).map (·.size) = some 3 := by kernel_rfl
theorem bgF_ok {xs : List WR} (hx : wrOk xs) {l : Nat} (hl : U l) (m : Int) : (bgF m xs l).ok := VS.set_ok (foldF_ok hx _) 6 hl.and
theorem bgR_ok {xs : List WR} (hx : wrOk xs) {l : Nat} (hl : U l) (m : Int) : (bgR m xs l).ok := VS.set_ok (foldR_ok hx _) 3 hl.and
theorem bg_mode {m : Int} {xs : List WR} {l : Nat} (h : bgOk m xs.length) : modeOk (bgF m xs l) ∧ modeOk (bgR m xs l) := by
  obtain ⟨h0, h1, h2, _⟩ := h
  have hm : m = 0 ∨ m = 1 ∨ m = 3 := by omega
  exact ⟨hm, hm⟩
def rightB (c : Int) : Bool := decide (0 ≤ c) && decide (c < 64)
abbrev trapI (c : Int) (v : Nat) (b : Bool) : Array Value := #[.int .i64 c, .int .u64 (v : Int), .bool b]
set_option maxHeartbeats 8000000 in
set_option maxRecDepth 100000 in
theorem right_c (c : Int) (v : Nat) (b : Bool) (w : World) :
    Calls Try.prog 11 #[.agg (trapI c v b)] w fun e w' => e = .returned (.bool (rightB c)) ∧ KpN w w' := by
  unfold rightB
  by_cases h : 0 ≤ c
  · have t1 : decide (0 ≤ c) = true := decide_eq_true h
    rw [t1, Bool.true_and]
    clear h
    go_enter Try.func11, Try.ntmps11
    go_wp2
    go_ret
    exact ⟨rfl, (Kp.refl _ _).alloc _⟩
  · have t1 : decide (0 ≤ c) = false := decide_eq_false h
    rw [t1, Bool.false_and]
    clear h
    go_enter Try.func11, Try.ntmps11
    go_wp2
    go_ret
    exact ⟨rfl, (Kp.refl _ _).alloc _⟩
def awakeS9 : VS := writeW vs0 773 257
theorem awakeS9_ok : awakeS9.ok := writeW_ok vs0_ok 773 U.num
theorem awakeS9_d : delegW awakeS9 7 true = false := by
  unfold delegW; rw [if_pos (by unfold awakeS9; rw [writeW_m]; rfl)]
theorem awakeS9_t : targetW (awakeS9.r 7) 7 true = 284 := by decide +kernel
theorem awakeS9_11 : (entM awakeS9 7 0 true 4096 3).r 11 = 9223372036854775815 := by decide +kernel
theorem awakeS9_10 : (entM awakeS9 7 0 true 4096 3).r 10 = 4096 := by decide +kernel
set_option maxHeartbeats 8000000 in
set_option maxRecDepth 100000 in
theorem awake9_c (w : World) :
    Calls Try.prog 9 #[] w fun e w' => e = .returned (.bool true) ∧ KpN w w' := by
  have E : Aside0 (∀ (g : Nat) W, St FT W g awakeS9 → Calls Try.prog 15 #[.pointer (some ⟨g, 0, none⟩), .agg #[.int .i64 7, .int .u64 0, .bool true], .int .u64 4096] W fun e w' => e = .returned (.int .u64 284) ∧ St FT w' g (entM awakeS9 7 0 true 4096 3) ∧ KpG W w' g) := ⟨fun g W h => by
    have := enter_m 3 (by decide) g awakeS9 7 0 true 4096 W h awakeS9_ok (by decide) U.num U.num (by unfold awakeS9; rw [writeW_m]; rfl) awakeS9_d
    rw [awakeS9_t] at this
    exact this⟩
  go_enter Try.func9, Try.ntmps9
  go_wp2_with (first
    | (go_at_call 32; refine (begin_c _).mono ?_; rintro e w1 ⟨rfl, hk1⟩)
    | ((with_reducible refine gate_dst (N := 1) rfl ?_); refine al_ev rfl rfl (N := 1) rfl _ (zeroF _) ?_; intro g hg_g w2 hb_g hk_g; have Hg_g := Aside0.mk hg_g; clear hg_g)
    | ((with_reducible refine gate_store (t := 31) (p := 1) rfl ?_); refine st_ev rfl rfl rfl g (vs0.cells) _ _ rfl rfl (hb_g) infoF rfl (VS.one _) ?_; intro w3 hs_w3 ks_w3))
  have hgw : w.heap.size ≤ g := by have := Hg_g.out; have := hk1.size; omega
  have K3 : KpN w w3 := (hk1.trans hk_g).then ks_w3 fun i hi (e : i = g) => by omega
  refine (write_l g vs0 773 257 w3 ⟨hs_w3⟩ vs0_ok (by decide)).mono ?_
  rintro e w4 ⟨rfl, hS4, hk4⟩
  have hS4' : St FT w4 g awakeS9 := hS4
  have K4 : KpN w w4 := K3.then hk4 fun i hi (e : i = g) => by omega
  clear hS4 K3 hk4 hs_w3 ks_w3 hb_g hk_g hk1 Hg_g
  go_wp2_with (fail)
  refine (E.out g _ hS4').mono ?_
  rintro e w5 ⟨rfl, hS5, hk5⟩
  have c11 : w5.cell? ⟨g, 11, none⟩ = some (.int .u64 9223372036854775815) := by have := hS5.c 11; rw [awakeS9_11] at this; exact this
  have c10 : w5.cell? ⟨g, 10, none⟩ = some (.int .u64 4096) := by have := hS5.c 10; rw [awakeS9_10] at this; exact this
  have K5 : KpN w w5 := K4.then hk5 fun i hi (e : i = g) => by omega
  clear hS4' K4 hk5 hS5
  go_wp2
  go_ret
  exact ⟨rfl, K5⟩
end Go.Proofs.Ytnknfepbekaobaa.H
