/- Sv39Keeps, walked by hand: the law. Printed by wip/tools/lawkeeps.py. -/
import Derived.Test.YtlhdildnekllhaaHmemory2
import Derived.Test.YtlhdildnekllhaaHcopy
import Derived.Test.YtlhdildnekllhaaHkeepp
namespace Go.Proofs.Ytlhdildnekllhaa.H
open Go.RowKit Go.Proofs.YtlhdildnekllhaaW.PrintWords Go.Proofs.YtlhdildnekllhaaW.PrintLast Go.Proofs.Ytlhdildnekllhaa.PAl Go.Proofs.Ytlhdildnekllhaa.Pure Go.Proofs.Ytlhdildnekllhaa.Vw
set_option linter.unusedVariables false
set_option linter.unusedSimpArgs false
abbrev Y2 : TypeId := 25
theorem infoY2 : (Try.prog.info? Y2).map (·.size) = some 5 := by kernel_rfl
theorem wayC_one (sp : Nat) (kd md : Int) (sum mxr : Bool) : (wayC sp kd md sum mxr).all (·.oneCell') = true := by simp [Value.oneCell']
theorem way_c (sp : Nat) (kd md : Int) (sum mxr : Bool) (w : World) : Calls Try.prog 13 #[.agg (wayC sp kd md sum mxr)] w fun e w' => e = .returned (.agg (wayC sp kd md sum mxr)) ∧ KpN w w' :=
  (vireolaw10_way.calls (sp : Int) kd md sum mxr _ _ _ _ _ w rfl).mono fun _ _ q => ⟨q.1, Kp.of_below q.2 _⟩
def rightW (md : Int) : Bool := decide (md = 0 ∨ md = 1 ∨ md = 3)
theorem right_c (sp : Nat) (kd md : Int) (sum mxr : Bool) (w : World) : Calls Try.prog 10 #[.agg (wayC sp kd md sum mxr)] w fun e w' => e = .returned (.bool (rightW md)) ∧ KpN w w' := by
  have h : vireolaw10_right.f (sp : Int) kd md sum mxr = some (rightW md) := by
    unfold vireolaw10_right.f rightW
    by_cases h0 : md = 0
    · rw [if_pos h0, decide_eq_true (.inl h0)]
    rw [if_neg h0]
    by_cases h1 : md = 1
    · rw [if_pos h1, decide_eq_true (.inr (.inl h1))]
    rw [if_neg h1]
    by_cases h3 : md = 3
    · rw [decide_eq_true (.inr (.inr h3)), h3]; rfl
    · rw [decide_eq_false (by rintro (h | h | h); exact h0 h; exact h1 h; exact h3 h), beq_eq_false_iff_ne.2 h3]
  exact (vireolaw10_right.calls (sp : Int) kd md sum mxr _ w h).mono fun _ _ q => ⟨q.1, Kp.of_below q.2 _⟩
set_option maxHeartbeats 8000000 in
set_option maxRecDepth 100000 in
theorem keeps_big (A : Option Addr) (c : Nat) (xs : List PW) (sp : Nat) (kd md : Int) (sum mxr : Bool) (va : Nat) (w : World) (hn : 60 < xs.length) :
    Calls Try.prog 6 #[.slice A xs.length c, .agg (wayC sp kd md sum mxr), .int .u64 (va : Int)] w fun e w' => e = .returned (.bool true) ∧ Below w.heap.size w w' := by
  have AW := Aside0.mk awake10_c
  have ME : Aside0 (∀ W, Calls Try.prog 9 #[.slice A xs.length c] W fun e w' => e = .returned (.tuple #[.pointer none, .agg (ramC (.slice none 0 0))]) ∧ KpN W w') := ⟨fun W => memory_no A c xs W hn⟩
  clear hn
  go_enter Try.func6, Try.ntmps6
  go_wp2_with (first
    | ((with_reducible refine gate_dst (N := 4) rfl ?_); refine bx_ev rfl rfl (N := 4) rfl (wayC sp kd md sum mxr) rfl ?_; intro k hg_k w1 hb_k hk_k; have Hg_k := Aside0.mk hg_k; clear hg_k)
    | (go_at_call 8; refine (AW.out _).mono ?_; rintro e w2 ⟨rfl, hk2⟩)
    | (go_at_call 9; refine (ME.out _).mono ?_; rintro e w3 ⟨rfl, hk3⟩)
    | ((with_reducible refine gate_dst (N := 8) rfl ?_); refine al_ev rfl rfl (N := 8) rfl _ (zeroM _) ?_; intro x hg_x w4 hb_x hk_x; have Hg_x := Aside0.mk hg_x; clear hg_x)
    | ((with_reducible refine gate_store (t := 30) (p := 8) rfl ?_); refine st_ev rfl rfl rfl x (ramC (.slice none 0 0)) _ _ rfl rfl (hb_x) infoM rfl ((by simp [Value.oneCell'])) ?_; intro w5 hs_w5 ks_w5))
  go_ret
  exact ⟨rfl, ((((hk_k.trans hk2).trans hk3).trans hk_x).then ks_w5 fun i hi (e : i = x) => by have := Hg_x.out; have := ((hk_k.trans hk2).trans hk3).size; omega).below (fun _ _ h => h.elim) (Nat.le_refl _)⟩
set_option maxHeartbeats 8000000 in
set_option maxRecDepth 100000 in
theorem keeps_md (A : Option Addr) (c : Nat) (xs : List PW) (sp : Nat) (kd md : Int) (sum mxr : Bool) (va : Nat) (w : World) (hn : xs.length ≤ 60) (hC : Kd.C k72 w A xs.length xs) (hx : putOk xs) (hm : rightW md = false) :
    Calls Try.prog 6 #[.slice A xs.length c, .agg (wayC sp kd md sum mxr), .int .u64 (va : Int)] w fun e w' => e = .returned (.bool true) ∧ Below w.heap.size w w' := by
  have AW := Aside0.mk awake10_c
  have ME : Aside0 (∀ W, KpN w W → Calls Try.prog 9 #[.slice A xs.length c] W (memPost xs W)) := ⟨fun W hW => memory_yes A c xs W hn (Kd.C_below hC (hW.below (fun _ _ h => h.elim) (Nat.le_refl _))) hx⟩
  have RI : Aside0 (∀ W, Calls Try.prog 10 #[.agg (wayC sp kd md sum mxr)] W fun e w' => e = .returned (.bool false) ∧ KpN W w') := ⟨fun W => by rw [← hm]; exact right_c sp kd md sum mxr W⟩
  clear hn hC hx hm
  go_enter Try.func6, Try.ntmps6
  go_wp2_with (first
    | ((with_reducible refine gate_dst (N := 4) rfl ?_); refine bx_ev rfl rfl (N := 4) rfl (wayC sp kd md sum mxr) rfl ?_; intro k hg_k w1 hb_k hk_k; have Hg_k := Aside0.mk hg_k; clear hg_k)
    | (go_at_call 8; refine (AW.out _).mono ?_; rintro e w2 ⟨rfl, hk2⟩)
    | (go_at_call 9; refine (ME.out _ (hk_k.trans hk2)).mono ?_; rintro e w3 ⟨g, B, pg, A1, c1, n1, rfl, hR3, hL3, hk3, hlo⟩; have hY3 := ((Bk.mk hb_k).kp hk2 (fun h => h)).kp hk3 (fun h => h); clear hR3 hL3 hlo)
    | ((with_reducible refine gate_dst (N := 8) rfl ?_); refine al_ev rfl rfl (N := 8) rfl _ (zeroM _) ?_; intro x hg_x w4 hb_x hk_x; have Hg_x := Aside0.mk hg_x; clear hg_x)
    | (((with_reducible refine gate_store (t := 30) (p := 8) rfl ?_); refine st_ev rfl rfl rfl x (ramC (.slice A1 n1 c1)) _ _ rfl rfl (hb_x) infoM rfl ((by simp [Value.oneCell'])) ?_; intro w5 hs_w5 ks_w5); have hkx : k ≠ x := (by have := Hg_x.out; have := blk_lt hY3.blk; omega); have hY5 := (hY3.kp hk_x (fun h => h)).kp ks_w5 hkx; have c0 : w5.cell? ⟨k, 0, none⟩ = some (.int .u64 (sp : Int)) := hY5.c 0; have c1_ : w5.cell? ⟨k, 1, none⟩ = some (.int .i64 kd) := hY5.c 1; have c2 : w5.cell? ⟨k, 2, none⟩ = some (.int .i64 md) := hY5.c 2; have c3 : w5.cell? ⟨k, 3, none⟩ = some (.bool sum) := hY5.c 3; have c4 : w5.cell? ⟨k, 4, none⟩ = some (.bool mxr) := hY5.c 4)
    | (go_at_call 10; refine (RI.out _).mono ?_; rintro e w6 ⟨rfl, hk6⟩))
  go_ret
  exact ⟨rfl, (((((hk_k.trans hk2).trans hk3).trans hk_x).then ks_w5 fun i hi (e : i = x) => by have := Hg_x.out; have := ((hk_k.trans hk2).trans hk3).size; omega).trans hk6).below (fun _ _ h => h.elim) (Nat.le_refl _)⟩
set_option maxHeartbeats 8000000 in
set_option maxRecDepth 100000 in
theorem keeps_tt (A : Option Addr) (c : Nat) (xs : List PW) (sp : Nat) (kd md : Int) (sum mxr : Bool) (va : Nat) (w : World) (hn : xs.length ≤ 60) (hC : Kd.C k72 w A xs.length xs) (hx : putOk xs) (hp : U sp) (hv : U va) (hm : rightW md = true) (rd : Int) (h0 : 0 ≤ rd) (h3 : rd ≤ 3) (hR : walkW (memM xs xs.length) 32768 sp kd md sum mxr va = (RS.mk 0 true true rd)) :
    Calls Try.prog 6 #[.slice A xs.length c, .agg (wayC sp kd md sum mxr), .int .u64 (va : Int)] w fun e w' => e = .returned (.bool true) ∧ Below w.heap.size w w' := by
  have AW := Aside0.mk awake10_c
  have ME : Aside0 (∀ W, KpN w W → Calls Try.prog 9 #[.slice A xs.length c] W (memPost xs W)) := ⟨fun W hW => memory_yes A c xs W hn (Kd.C_below hC (hW.below (fun _ _ h => h.elim) (Nat.le_refl _))) hx⟩
  have RI : Aside0 (∀ W, Calls Try.prog 10 #[.agg (wayC sp kd md sum mxr)] W fun e w' => e = .returned (.bool true) ∧ KpN W w') := ⟨fun W => by rw [← hm]; exact right_c sp kd md sum mxr W⟩
  have WY : Aside0 (∀ W, Calls Try.prog 13 #[.agg (wayC sp kd md sum mxr)] W fun e w' => e = .returned (.agg (wayC sp kd md sum mxr)) ∧ KpN W w') := ⟨way_c sp kd md sum mxr⟩
  have WK : Aside0 (∀ (g B n : Nat) (pg : Nat → Option Nat) W, Rm W g B n 32768 pg (memM xs xs.length) → Calls Try.prog 12 #[.pointer (some ⟨g, 0, none⟩), .agg (wayC sp kd md sum mxr), .int .u64 (va : Int)] W fun e w' => e = .returned (.agg (RS.mk 0 true true rd).cells) ∧ KpN W w') := ⟨fun g B n pg W h => by rw [← hR]; exact walk_c g B n 32768 pg _ sp kd md sum mxr va W h (by decide) hp hv⟩
  have CY : Aside0 (∀ (g B : Nat) (pg : Nat → Option Nat) W, Rm W g B (8 * xs.length) 32768 pg (memM xs xs.length) → Calls Try.prog 18 #[.pointer (some ⟨g, 0, none⟩)] W (copyPost g B (8 * xs.length) 32768 pg (memM xs xs.length) W)) := ⟨fun g B pg W h => copy_c g B _ 32768 pg _ W h.rc (Nat.lt_of_le_of_lt (show 8 * xs.length ≤ 480 by omega) (by decide))⟩
  have t1 : decide (rd < 0) = false := decide_eq_false (by omega)
  have t2 : decide (3 < rd) = false := decide_eq_false (by omega)
  clear hn hC hx hm hR h0 h3
  go_enter Try.func6, Try.ntmps6
  go_wp2_with (first
    | ((with_reducible refine gate_dst (N := 4) rfl ?_); refine bx_ev rfl rfl (N := 4) rfl (wayC sp kd md sum mxr) rfl ?_; intro k hg_k w1 hb_k hk_k; have Hg_k := Aside0.mk hg_k; clear hg_k)
    | (go_at_call 8; refine (AW.out _).mono ?_; rintro e w2 ⟨rfl, hk2⟩)
    | (go_at_call 9; refine (ME.out _ (hk_k.trans hk2)).mono ?_; rintro e w3 ⟨g, B, pg, A1, c1, n1, rfl, hR3, hL3, hk3, hlo⟩; have hY3 := ((Bk.mk hb_k).kp hk2 (fun h => h)).kp hk3 (fun h => h); clear hL3 hlo)
    | ((with_reducible refine gate_dst (N := 8) rfl ?_); refine al_ev rfl rfl (N := 8) rfl _ (zeroM _) ?_; intro x hg_x w4 hb_x hk_x; have Hg_x := Aside0.mk hg_x; clear hg_x)
    | (((with_reducible refine gate_store (t := 30) (p := 8) rfl ?_); refine st_ev rfl rfl rfl x (ramC (.slice A1 n1 c1)) _ _ rfl rfl (hb_x) infoM rfl ((by simp [Value.oneCell'])) ?_; intro w5 hs_w5 ks_w5); have hkx : k ≠ x := (by have := Hg_x.out; have := blk_lt hY3.blk; omega); have hY5 := (hY3.kp hk_x (fun h => h)).kp ks_w5 hkx; have c0 : w5.cell? ⟨k, 0, none⟩ = some (.int .u64 (sp : Int)) := hY5.c 0; have c1_ : w5.cell? ⟨k, 1, none⟩ = some (.int .i64 kd) := hY5.c 1; have c2 : w5.cell? ⟨k, 2, none⟩ = some (.int .i64 md) := hY5.c 2; have c3 : w5.cell? ⟨k, 3, none⟩ = some (.bool sum) := hY5.c 3; have c4 : w5.cell? ⟨k, 4, none⟩ = some (.bool mxr) := hY5.c 4; have hwx : w.heap.size ≤ x := (by have := Hg_x.out; have := ((hk_k.trans hk2).trans hk3).size; omega))
    | (go_at_call 10; refine (RI.out _).mono ?_; rintro e w6 ⟨rfl, hk6⟩; have R6 := Aside0.mk (((hR3.kpN hk_x).kp ks_w5 (fun i hi (e : i = x) => (hR3.kpN hk_x).off hb_x (by decide) (by decide) (e ▸ hi))).kpN hk6); clear c0 c1_ c2 c3 c4)
    | (go_at_call 18; refine (CY.out g B pg _ R6.out).mono ?_; rintro e w7 ⟨g2, B2, n2, pg2, rfl, hR2, hk7, hs1, hs2⟩; have hY7 := (hY5.kp hk6 (fun h => h)).kp hk7 (fun h => h); have c0 : w7.cell? ⟨k, 0, none⟩ = some (.int .u64 (sp : Int)) := hY7.c 0; have c1_ : w7.cell? ⟨k, 1, none⟩ = some (.int .i64 kd) := hY7.c 1; have c2 : w7.cell? ⟨k, 2, none⟩ = some (.int .i64 md) := hY7.c 2; have c3 : w7.cell? ⟨k, 3, none⟩ = some (.bool sum) := hY7.c 3; have c4 : w7.cell? ⟨k, 4, none⟩ = some (.bool mxr) := hY7.c 4)
    | (go_at_call 13; refine (WY.out _).mono ?_; rintro e w8 ⟨rfl, hk8⟩)
    | (go_at_call 12; refine (WK.out g B _ pg _ (R6.out.kpN (hk7.trans hk8))).mono ?_; rintro e w9 ⟨rfl, hk9⟩)
    | ((with_reducible refine gate_dst (N := 10) rfl ?_); refine al_ev rfl rfl (N := 10) rfl _ (zeroS _) ?_; intro y hg_y w10 hb_y hk_y; have Hg_y := Aside0.mk hg_y; clear hg_y)
    | (((with_reducible refine gate_store (t := 36) (p := 10) rfl ?_); refine st_ev rfl rfl rfl y ((RS.mk 0 true true rd).cells) _ _ rfl rfl (hb_y) infoS rfl (RS.one _) ?_; intro w11 hs_w11 ks_w11); have K79 : KpN w7 w10 := ((hk8.trans hk9).trans hk_y); have y7 : w7.heap.size ≤ y := (by have := Hg_y.out; have := (hk8.trans hk9).size; omega); have K11 : KpN w7 w11 := K79.then ks_w11 fun i hi (e : i = y) => by omega)
    | (go_at_call 19; refine (same_m g B _ 32768 pg _ g2 B2 n2 pg2 _ (R6.out.kpN (hk7.trans K11)).rc (hR2.kpN K11) hs1 hs2).mono ?_; rintro e w12 ⟨rfl, hk12⟩; have Z12 := (Bk.mk hs_w11).kp hk12 (fun h => h); have z0 : w12.cell? ⟨y, 0, none⟩ = some (.int .u64 ((0 : Nat) : Int)) := Z12.c 0; have z1 : w12.cell? ⟨y, 1, none⟩ = some (.bool true) := Z12.c 1; have z2 : w12.cell? ⟨y, 2, none⟩ = some (.bool true) := Z12.c 2; have z3 : w12.cell? ⟨y, 3, none⟩ = some (.int .i64 rd) := Z12.c 3))
  go_ret
  exact ⟨rfl, (((((((hk_k.trans hk2).trans hk3).trans hk_x).then ks_w5 fun i hi (e : i = x) => by have := Hg_x.out; have := ((hk_k.trans hk2).trans hk3).size; omega).trans hk6).trans hk7).trans (K11.trans hk12)).below (fun _ _ h => h.elim) (Nat.le_refl _)⟩
set_option maxHeartbeats 8000000 in
set_option maxRecDepth 100000 in
theorem keeps_tf (A : Option Addr) (c : Nat) (xs : List PW) (sp : Nat) (kd md : Int) (sum mxr : Bool) (va : Nat) (w : World) (hn : xs.length ≤ 60) (hC : Kd.C k72 w A xs.length xs) (hx : putOk xs) (hp : U sp) (hv : U va) (hm : rightW md = true) (rd : Int) (h0 : 0 ≤ rd) (h3 : rd ≤ 3) (hR : walkW (memM xs xs.length) 32768 sp kd md sum mxr va = (RS.mk 0 true false rd)) :
    Calls Try.prog 6 #[.slice A xs.length c, .agg (wayC sp kd md sum mxr), .int .u64 (va : Int)] w fun e w' => e = .returned (.bool true) ∧ Below w.heap.size w w' := by
  have AW := Aside0.mk awake10_c
  have ME : Aside0 (∀ W, KpN w W → Calls Try.prog 9 #[.slice A xs.length c] W (memPost xs W)) := ⟨fun W hW => memory_yes A c xs W hn (Kd.C_below hC (hW.below (fun _ _ h => h.elim) (Nat.le_refl _))) hx⟩
  have RI : Aside0 (∀ W, Calls Try.prog 10 #[.agg (wayC sp kd md sum mxr)] W fun e w' => e = .returned (.bool true) ∧ KpN W w') := ⟨fun W => by rw [← hm]; exact right_c sp kd md sum mxr W⟩
  have WY : Aside0 (∀ W, Calls Try.prog 13 #[.agg (wayC sp kd md sum mxr)] W fun e w' => e = .returned (.agg (wayC sp kd md sum mxr)) ∧ KpN W w') := ⟨way_c sp kd md sum mxr⟩
  have WK : Aside0 (∀ (g B n : Nat) (pg : Nat → Option Nat) W, Rm W g B n 32768 pg (memM xs xs.length) → Calls Try.prog 12 #[.pointer (some ⟨g, 0, none⟩), .agg (wayC sp kd md sum mxr), .int .u64 (va : Int)] W fun e w' => e = .returned (.agg (RS.mk 0 true false rd).cells) ∧ KpN W w') := ⟨fun g B n pg W h => by rw [← hR]; exact walk_c g B n 32768 pg _ sp kd md sum mxr va W h (by decide) hp hv⟩
  have CY : Aside0 (∀ (g B : Nat) (pg : Nat → Option Nat) W, Rm W g B (8 * xs.length) 32768 pg (memM xs xs.length) → Calls Try.prog 18 #[.pointer (some ⟨g, 0, none⟩)] W (copyPost g B (8 * xs.length) 32768 pg (memM xs xs.length) W)) := ⟨fun g B pg W h => copy_c g B _ 32768 pg _ W h.rc (Nat.lt_of_le_of_lt (show 8 * xs.length ≤ 480 by omega) (by decide))⟩
  have t1 : decide (rd < 0) = false := decide_eq_false (by omega)
  have t2 : decide (3 < rd) = false := decide_eq_false (by omega)
  clear hn hC hx hm hR h0 h3
  go_enter Try.func6, Try.ntmps6
  go_wp2_with (first
    | ((with_reducible refine gate_dst (N := 4) rfl ?_); refine bx_ev rfl rfl (N := 4) rfl (wayC sp kd md sum mxr) rfl ?_; intro k hg_k w1 hb_k hk_k; have Hg_k := Aside0.mk hg_k; clear hg_k)
    | (go_at_call 8; refine (AW.out _).mono ?_; rintro e w2 ⟨rfl, hk2⟩)
    | (go_at_call 9; refine (ME.out _ (hk_k.trans hk2)).mono ?_; rintro e w3 ⟨g, B, pg, A1, c1, n1, rfl, hR3, hL3, hk3, hlo⟩; have hY3 := ((Bk.mk hb_k).kp hk2 (fun h => h)).kp hk3 (fun h => h); clear hL3 hlo)
    | ((with_reducible refine gate_dst (N := 8) rfl ?_); refine al_ev rfl rfl (N := 8) rfl _ (zeroM _) ?_; intro x hg_x w4 hb_x hk_x; have Hg_x := Aside0.mk hg_x; clear hg_x)
    | (((with_reducible refine gate_store (t := 30) (p := 8) rfl ?_); refine st_ev rfl rfl rfl x (ramC (.slice A1 n1 c1)) _ _ rfl rfl (hb_x) infoM rfl ((by simp [Value.oneCell'])) ?_; intro w5 hs_w5 ks_w5); have hkx : k ≠ x := (by have := Hg_x.out; have := blk_lt hY3.blk; omega); have hY5 := (hY3.kp hk_x (fun h => h)).kp ks_w5 hkx; have c0 : w5.cell? ⟨k, 0, none⟩ = some (.int .u64 (sp : Int)) := hY5.c 0; have c1_ : w5.cell? ⟨k, 1, none⟩ = some (.int .i64 kd) := hY5.c 1; have c2 : w5.cell? ⟨k, 2, none⟩ = some (.int .i64 md) := hY5.c 2; have c3 : w5.cell? ⟨k, 3, none⟩ = some (.bool sum) := hY5.c 3; have c4 : w5.cell? ⟨k, 4, none⟩ = some (.bool mxr) := hY5.c 4; have hwx : w.heap.size ≤ x := (by have := Hg_x.out; have := ((hk_k.trans hk2).trans hk3).size; omega))
    | (go_at_call 10; refine (RI.out _).mono ?_; rintro e w6 ⟨rfl, hk6⟩; have R6 := Aside0.mk (((hR3.kpN hk_x).kp ks_w5 (fun i hi (e : i = x) => (hR3.kpN hk_x).off hb_x (by decide) (by decide) (e ▸ hi))).kpN hk6); clear c0 c1_ c2 c3 c4)
    | (go_at_call 18; refine (CY.out g B pg _ R6.out).mono ?_; rintro e w7 ⟨g2, B2, n2, pg2, rfl, hR2, hk7, hs1, hs2⟩; have hY7 := (hY5.kp hk6 (fun h => h)).kp hk7 (fun h => h); have c0 : w7.cell? ⟨k, 0, none⟩ = some (.int .u64 (sp : Int)) := hY7.c 0; have c1_ : w7.cell? ⟨k, 1, none⟩ = some (.int .i64 kd) := hY7.c 1; have c2 : w7.cell? ⟨k, 2, none⟩ = some (.int .i64 md) := hY7.c 2; have c3 : w7.cell? ⟨k, 3, none⟩ = some (.bool sum) := hY7.c 3; have c4 : w7.cell? ⟨k, 4, none⟩ = some (.bool mxr) := hY7.c 4)
    | (go_at_call 13; refine (WY.out _).mono ?_; rintro e w8 ⟨rfl, hk8⟩)
    | (go_at_call 12; refine (WK.out g B _ pg _ (R6.out.kpN (hk7.trans hk8))).mono ?_; rintro e w9 ⟨rfl, hk9⟩)
    | ((with_reducible refine gate_dst (N := 10) rfl ?_); refine al_ev rfl rfl (N := 10) rfl _ (zeroS _) ?_; intro y hg_y w10 hb_y hk_y; have Hg_y := Aside0.mk hg_y; clear hg_y)
    | (((with_reducible refine gate_store (t := 36) (p := 10) rfl ?_); refine st_ev rfl rfl rfl y ((RS.mk 0 true false rd).cells) _ _ rfl rfl (hb_y) infoS rfl (RS.one _) ?_; intro w11 hs_w11 ks_w11); have K79 : KpN w7 w10 := ((hk8.trans hk9).trans hk_y); have y7 : w7.heap.size ≤ y := (by have := Hg_y.out; have := (hk8.trans hk9).size; omega); have K11 : KpN w7 w11 := K79.then ks_w11 fun i hi (e : i = y) => by omega)
    | (go_at_call 19; refine (same_m g B _ 32768 pg _ g2 B2 n2 pg2 _ (R6.out.kpN (hk7.trans K11)).rc (hR2.kpN K11) hs1 hs2).mono ?_; rintro e w12 ⟨rfl, hk12⟩; have Z12 := (Bk.mk hs_w11).kp hk12 (fun h => h); have z0 : w12.cell? ⟨y, 0, none⟩ = some (.int .u64 ((0 : Nat) : Int)) := Z12.c 0; have z1 : w12.cell? ⟨y, 1, none⟩ = some (.bool true) := Z12.c 1; have z2 : w12.cell? ⟨y, 2, none⟩ = some (.bool false) := Z12.c 2; have z3 : w12.cell? ⟨y, 3, none⟩ = some (.int .i64 rd) := Z12.c 3))
  go_ret
  exact ⟨rfl, (((((((hk_k.trans hk2).trans hk3).trans hk_x).then ks_w5 fun i hi (e : i = x) => by have := Hg_x.out; have := ((hk_k.trans hk2).trans hk3).size; omega).trans hk6).trans hk7).trans (K11.trans hk12)).below (fun _ _ h => h.elim) (Nat.le_refl _)⟩
set_option maxHeartbeats 8000000 in
set_option maxRecDepth 100000 in
theorem keeps_ff (A : Option Addr) (c : Nat) (xs : List PW) (sp : Nat) (kd md : Int) (sum mxr : Bool) (va : Nat) (w : World) (hn : xs.length ≤ 60) (hC : Kd.C k72 w A xs.length xs) (hx : putOk xs) (hp : U sp) (hv : U va) (hm : rightW md = true) (rd : Int) (ad : Nat) (hm12 : ad % 4096 = va % 4096) (h0 : 0 ≤ rd) (h3 : rd ≤ 3) (hR : walkW (memM xs xs.length) 32768 sp kd md sum mxr va = (RS.mk ad false false rd)) :
    Calls Try.prog 6 #[.slice A xs.length c, .agg (wayC sp kd md sum mxr), .int .u64 (va : Int)] w fun e w' => e = .returned (.bool true) ∧ Below w.heap.size w w' := by
  have AW := Aside0.mk awake10_c
  have ME : Aside0 (∀ W, KpN w W → Calls Try.prog 9 #[.slice A xs.length c] W (memPost xs W)) := ⟨fun W hW => memory_yes A c xs W hn (Kd.C_below hC (hW.below (fun _ _ h => h.elim) (Nat.le_refl _))) hx⟩
  have RI : Aside0 (∀ W, Calls Try.prog 10 #[.agg (wayC sp kd md sum mxr)] W fun e w' => e = .returned (.bool true) ∧ KpN W w') := ⟨fun W => by rw [← hm]; exact right_c sp kd md sum mxr W⟩
  have WY : Aside0 (∀ W, Calls Try.prog 13 #[.agg (wayC sp kd md sum mxr)] W fun e w' => e = .returned (.agg (wayC sp kd md sum mxr)) ∧ KpN W w') := ⟨way_c sp kd md sum mxr⟩
  have WK : Aside0 (∀ (g B n : Nat) (pg : Nat → Option Nat) W, Rm W g B n 32768 pg (memM xs xs.length) → Calls Try.prog 12 #[.pointer (some ⟨g, 0, none⟩), .agg (wayC sp kd md sum mxr), .int .u64 (va : Int)] W fun e w' => e = .returned (.agg (RS.mk ad false false rd).cells) ∧ KpN W w') := ⟨fun g B n pg W h => by rw [← hR]; exact walk_c g B n 32768 pg _ sp kd md sum mxr va W h (by decide) hp hv⟩
  have CY : Aside0 (∀ (g B : Nat) (pg : Nat → Option Nat) W, Rm W g B (8 * xs.length) 32768 pg (memM xs xs.length) → Calls Try.prog 18 #[.pointer (some ⟨g, 0, none⟩)] W (copyPost g B (8 * xs.length) 32768 pg (memM xs xs.length) W)) := ⟨fun g B pg W h => copy_c g B _ 32768 pg _ W h.rc (Nat.lt_of_le_of_lt (show 8 * xs.length ≤ 480 by omega) (by decide))⟩
  have t1 : decide (rd < 0) = false := decide_eq_false (by omega)
  have t2 : decide (3 < rd) = false := decide_eq_false (by omega)
  have m1 : (ad : Int) % 4096 = (va : Int) % 4096 := by omega
  have m2 : (ad : Int).tmod 4096 = (va : Int).tmod 4096 := by rw [Int.tmod_eq_emod_of_nonneg (by omega), Int.tmod_eq_emod_of_nonneg (by omega)]; exact m1
  clear hn hC hx hm hR h0 h3
  go_enter Try.func6, Try.ntmps6
  go_wp2_with (first
    | ((with_reducible refine gate_dst (N := 4) rfl ?_); refine bx_ev rfl rfl (N := 4) rfl (wayC sp kd md sum mxr) rfl ?_; intro k hg_k w1 hb_k hk_k; have Hg_k := Aside0.mk hg_k; clear hg_k)
    | (go_at_call 8; refine (AW.out _).mono ?_; rintro e w2 ⟨rfl, hk2⟩)
    | (go_at_call 9; refine (ME.out _ (hk_k.trans hk2)).mono ?_; rintro e w3 ⟨g, B, pg, A1, c1, n1, rfl, hR3, hL3, hk3, hlo⟩; have hY3 := ((Bk.mk hb_k).kp hk2 (fun h => h)).kp hk3 (fun h => h); clear hL3 hlo)
    | ((with_reducible refine gate_dst (N := 8) rfl ?_); refine al_ev rfl rfl (N := 8) rfl _ (zeroM _) ?_; intro x hg_x w4 hb_x hk_x; have Hg_x := Aside0.mk hg_x; clear hg_x)
    | (((with_reducible refine gate_store (t := 30) (p := 8) rfl ?_); refine st_ev rfl rfl rfl x (ramC (.slice A1 n1 c1)) _ _ rfl rfl (hb_x) infoM rfl ((by simp [Value.oneCell'])) ?_; intro w5 hs_w5 ks_w5); have hkx : k ≠ x := (by have := Hg_x.out; have := blk_lt hY3.blk; omega); have hY5 := (hY3.kp hk_x (fun h => h)).kp ks_w5 hkx; have c0 : w5.cell? ⟨k, 0, none⟩ = some (.int .u64 (sp : Int)) := hY5.c 0; have c1_ : w5.cell? ⟨k, 1, none⟩ = some (.int .i64 kd) := hY5.c 1; have c2 : w5.cell? ⟨k, 2, none⟩ = some (.int .i64 md) := hY5.c 2; have c3 : w5.cell? ⟨k, 3, none⟩ = some (.bool sum) := hY5.c 3; have c4 : w5.cell? ⟨k, 4, none⟩ = some (.bool mxr) := hY5.c 4; have hwx : w.heap.size ≤ x := (by have := Hg_x.out; have := ((hk_k.trans hk2).trans hk3).size; omega))
    | (go_at_call 10; refine (RI.out _).mono ?_; rintro e w6 ⟨rfl, hk6⟩; have R6 := Aside0.mk (((hR3.kpN hk_x).kp ks_w5 (fun i hi (e : i = x) => (hR3.kpN hk_x).off hb_x (by decide) (by decide) (e ▸ hi))).kpN hk6); clear c0 c1_ c2 c3 c4)
    | (go_at_call 18; refine (CY.out g B pg _ R6.out).mono ?_; rintro e w7 ⟨g2, B2, n2, pg2, rfl, hR2, hk7, hs1, hs2⟩; have hY7 := (hY5.kp hk6 (fun h => h)).kp hk7 (fun h => h); have c0 : w7.cell? ⟨k, 0, none⟩ = some (.int .u64 (sp : Int)) := hY7.c 0; have c1_ : w7.cell? ⟨k, 1, none⟩ = some (.int .i64 kd) := hY7.c 1; have c2 : w7.cell? ⟨k, 2, none⟩ = some (.int .i64 md) := hY7.c 2; have c3 : w7.cell? ⟨k, 3, none⟩ = some (.bool sum) := hY7.c 3; have c4 : w7.cell? ⟨k, 4, none⟩ = some (.bool mxr) := hY7.c 4)
    | (go_at_call 13; refine (WY.out _).mono ?_; rintro e w8 ⟨rfl, hk8⟩)
    | (go_at_call 12; refine (WK.out g B _ pg _ (R6.out.kpN (hk7.trans hk8))).mono ?_; rintro e w9 ⟨rfl, hk9⟩)
    | ((with_reducible refine gate_dst (N := 10) rfl ?_); refine al_ev rfl rfl (N := 10) rfl _ (zeroS _) ?_; intro y hg_y w10 hb_y hk_y; have Hg_y := Aside0.mk hg_y; clear hg_y)
    | (((with_reducible refine gate_store (t := 36) (p := 10) rfl ?_); refine st_ev rfl rfl rfl y ((RS.mk ad false false rd).cells) _ _ rfl rfl (hb_y) infoS rfl (RS.one _) ?_; intro w11 hs_w11 ks_w11); have K79 : KpN w7 w10 := ((hk8.trans hk9).trans hk_y); have y7 : w7.heap.size ≤ y := (by have := Hg_y.out; have := (hk8.trans hk9).size; omega); have K11 : KpN w7 w11 := K79.then ks_w11 fun i hi (e : i = y) => by omega)
    | (go_at_call 19; refine (same_m g B _ 32768 pg _ g2 B2 n2 pg2 _ (R6.out.kpN (hk7.trans K11)).rc (hR2.kpN K11) hs1 hs2).mono ?_; rintro e w12 ⟨rfl, hk12⟩; have Z12 := (Bk.mk hs_w11).kp hk12 (fun h => h); have z0 : w12.cell? ⟨y, 0, none⟩ = some (.int .u64 ((ad : Nat) : Int)) := Z12.c 0; have z1 : w12.cell? ⟨y, 1, none⟩ = some (.bool false) := Z12.c 1; have z2 : w12.cell? ⟨y, 2, none⟩ = some (.bool false) := Z12.c 2; have z3 : w12.cell? ⟨y, 3, none⟩ = some (.int .i64 rd) := Z12.c 3))
  go_ret
  exact ⟨rfl, (((((((hk_k.trans hk2).trans hk3).trans hk_x).then ks_w5 fun i hi (e : i = x) => by have := Hg_x.out; have := ((hk_k.trans hk2).trans hk3).size; omega).trans hk6).trans hk7).trans (K11.trans hk12)).below (fun _ _ h => h.elim) (Nat.le_refl _)⟩
theorem keeps_yes (A : Option Addr) (c : Nat) (xs : List PW) (sp : Nat) (kd md : Int) (sum mxr : Bool) (va : Nat) (w : World) (hn : xs.length ≤ 60) (hC : Kd.C k72 w A xs.length xs) (hx : putOk xs) (hp : U sp) (hv : U va) (hm : rightW md = true) :
    Calls Try.prog 6 #[.slice A xs.length c, .agg (wayC sp kd md sum mxr), .int .u64 (va : Int)] w fun e w' => e = .returned (.bool true) ∧ Below w.heap.size w w' := by
  obtain ⟨R, hR⟩ : ∃ R, walkW (memM xs xs.length) 32768 sp kd md sum mxr va = R := ⟨_, rfl⟩
  have K := walkW_keeps (memM xs xs.length) 32768 sp kd md sum mxr va
  rw [hR] at K
  obtain ⟨ad, f, p, rd⟩ := R
  cases f with
  | true =>
    have ha : ad = 0 := K.fa rfl
    subst ha
    cases p with
    | true => exact keeps_tt A c xs sp kd md sum mxr va w hn hC hx hp hv hm rd K.r0 K.r3 hR
    | false => exact keeps_tf A c xs sp kd md sum mxr va w hn hC hx hp hv hm rd K.r0 K.r3 hR
  | false =>
    cases p with
    | true => exact (Bool.false_ne_true (K.pf rfl)).elim
    | false => exact keeps_ff A c xs sp kd md sum mxr va w hn hC hx hp hv hm rd ad (K.fm rfl) K.r0 K.r3 hR
end Go.Proofs.Ytlhdildnekllhaa.H
