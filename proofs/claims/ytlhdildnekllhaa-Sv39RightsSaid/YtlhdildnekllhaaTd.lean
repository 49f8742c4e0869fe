/- Sv39Rights: the plain law and the walk. -/
import Derived.Test.YtlhdildnekllhaaTb
import Derived.Test.YtlhdildnekllhaaTc
/- Sv39Rights, the plain law: what a right kept from one way to another keeps. -/
namespace Go.Proofs.Ytlhdildnekllhaa.H
open Go.RowKit Go.Proofs.YtlhdildnekllhaaW.PrintWords Go.Proofs.YtlhdildnekllhaaW.PrintLast Go.Proofs.Ytlhdildnekllhaa.PAl Go.Proofs.Ytlhdildnekllhaa.Pure Go.Proofs.Ytlhdildnekllhaa.Vw
set_option linter.unusedVariables false
set_option linter.unusedSimpArgs false
section
variable (M : Nat → Nat) (size sp va : Nat) {kd md kd' md' : Int} {sum mxr sum' mxr' : Bool}
/-- What one way may, the other may. -/
def okW (kd md : Int) (sum mxr : Bool) (kd' md' : Int) (sum' mxr' : Bool) : Prop := ∀ e, oddW e = false → leafW e = true → allowW kd md sum mxr e = true → allowW kd' md' sum' mxr' e = true
theorem badR_f (l : Nat) : (badR l).fault = true := rfl
theorem walkL_ok (h : okW kd md sum mxr kd' md' sum' mxr') : ∀ l T, (walkL M size kd md sum mxr va l T).fault = false → walkL M size kd' md' sum' mxr' va l T = walkL M size kd md sum mxr va l T
  | 0, T => fun h0 => by rw [walkL.eq_1] at h0; cases h0
  | l + 1, T => by
    rw [walkL.eq_2, walkL.eq_2]
    generalize ldN M (entA va T l - 2147483648) 8 = e
    by_cases h1 : hasB size (entA va T l) 8 = false
    · rw [if_pos h1]; intro h0; cases h0
    rw [if_neg h1, if_neg h1]
    by_cases h2 : oddW e = true
    · rw [if_pos h2, badR_f]; intro h0; cases h0
    rw [if_neg h2, if_neg h2]
    by_cases h3 : leafW e = false
    · rw [if_pos h3, if_pos h3]; exact walkL_ok h l _
    rw [if_neg h3, if_neg h3]
    by_cases h4 : allowW kd md sum mxr e = false ∨ getW (pageW e) 0 (12 + 9 * (l : Int)) ≠ 0
    · rw [if_pos h4, badR_f]; intro h0; cases h0
    rw [if_neg h4]
    have ha : allowW kd md sum mxr e = true := by
      cases hx : allowW kd md sum mxr e
      · exact absurd (.inl hx) h4
      · rfl
    have hb := h e (by simpa using h2) (by simpa using h3) ha
    intro _
    rw [if_neg]
    rintro (hc | hc)
    · rw [hb] at hc; cases hc
    · exact h4 (.inr hc)
theorem walkW_ok (h : okW kd md sum mxr kd' md' sum' mxr') (hb : bareW sp md' = bareW sp md) (hf : (walkW M size sp kd md sum mxr va).fault = false) : walkW M size sp kd' md' sum' mxr' va = walkW M size sp kd md sum mxr va := by
  unfold walkW at hf ⊢
  rw [hb]
  by_cases h1 : bareW sp md = true
  · rw [if_pos h1, if_pos h1]
  rw [if_neg h1] at hf ⊢
  rw [if_neg h1]
  by_cases h2 : properW va = false
  · rw [if_pos h2, if_pos h2]
  rw [if_neg h2] at hf ⊢
  rw [if_neg h2]
  exact walkL_ok M size va h 3 _ hf
end
/-- Where a store may go a load may. -/
theorem store_load (md : Int) (sum mxr : Bool) : okW 2 md sum mxr 1 md sum mxr := fun e ho hl ha => by
  have h1 : bitW e 2 = true → bitW e 1 = true := by
    intro h2
    unfold oddW at ho
    rw [h2] at ho
    cases hb : bitW e 1
    · rw [hb] at ho; simp at ho
    · rfl
  unfold allowW at ha ⊢
  by_cases c1 : md = 0 ∧ bitW e 4 = false
  · rw [if_pos c1] at ha; cases ha
  rw [if_neg c1] at ha ⊢
  by_cases c2 : md = 1 ∧ bitW e 4 = true ∧ (sum = false)
  · rw [if_pos ⟨c2.1, c2.2.1, .inr c2.2.2⟩] at ha; cases ha
  rw [if_neg (fun h => c2 ⟨h.1, h.2.1, h.2.2.resolve_left (by decide)⟩)] at ha ⊢
  by_cases c3 : bitW e 6 = false
  · rw [if_pos c3] at ha; cases ha
  rw [if_neg c3, if_neg (by decide), if_neg (by decide)] at ha
  rw [if_neg c3, if_neg (by decide), if_pos rfl, h1 (Bool.and_eq_true_iff.1 ha).1, Bool.true_or]
/-- Where a program may load the supervisor may with SUM. -/
theorem user_super (sum mxr : Bool) : okW 1 0 sum mxr 1 1 true mxr := fun e ho hl ha => by
  unfold allowW at ha ⊢
  by_cases c1 : (0 : Int) = 0 ∧ bitW e 4 = false
  · rw [if_pos c1] at ha; cases ha
  rw [if_neg c1, if_neg (by rintro ⟨h, _⟩; cases h)] at ha
  rw [if_neg (by rintro ⟨h, _⟩; cases h), if_neg (by rintro ⟨_, _, h | h⟩ <;> cases h)]
  exact ha
theorem bare01 (sp : Nat) (md md' : Int) (h : md = 0 ∨ md = 1) (h' : md' = 0 ∨ md' = 1) : bareW sp md' = bareW sp md := by
  unfold bareW
  rw [decide_eq_false (show ¬ md = 3 by omega), decide_eq_false (show ¬ md' = 3 by omega)]
end Go.Proofs.Ytlhdildnekllhaa.H
/- Sv39Rights, walked by hand: where a store may go a load may; where a program may go the supervisor may with SUM. -/
namespace Go.Proofs.Ytlhdildnekllhaa.H
open Go.RowKit Go.Proofs.YtlhdildnekllhaaW.PrintWords Go.Proofs.YtlhdildnekllhaaW.PrintLast Go.Proofs.Ytlhdildnekllhaa.PAl Go.Proofs.Ytlhdildnekllhaa.Pure Go.Proofs.Ytlhdildnekllhaa.Vw
set_option linter.unusedVariables false
set_option linter.unusedSimpArgs false
abbrev Y2 : TypeId := 25
theorem infoY2 : (Try.prog.info? Y2).map (·.size) = some 5 := by kernel_rfl
abbrev zY : Array Value := #[.int .u64 0, .int .i64 0, .int .i64 0, .bool false, .bool false]
theorem zeroY (w : World) : (zeroValue YT).run Try.prog w = .ok (.agg zY) w := by kernel_rfl
theorem wayC_one (sp : Nat) (kd md : Int) (sum mxr : Bool) : (wayC sp kd md sum mxr).all (·.oneCell') = true := by simp [Value.oneCell']
theorem way_c (sp : Nat) (kd md : Int) (sum mxr : Bool) (w : World) : Calls Try.prog 13 #[.agg (wayC sp kd md sum mxr)] w fun e w' => e = .returned (.agg (wayC sp kd md sum mxr)) ∧ KpN w w' :=
  (vireolaw10_way.calls (sp : Int) kd md sum mxr _ _ _ _ _ w rfl).mono fun _ _ q => ⟨q.1, Kp.of_below q.2 _⟩
set_option maxHeartbeats 8000000 in
set_option maxRecDepth 100000 in
theorem rights_big (A : Option Addr) (c : Nat) (xs : List PW) (sp : Nat) (kd md : Int) (sum mxr : Bool) (va : Nat) (w : World) (hn : 60 < xs.length) :
    Calls Try.prog 4 #[.slice A xs.length c, .agg (wayC sp kd md sum mxr), .int .u64 (va : Int)] w fun e w' => e = .returned (.bool true) ∧ Below w.heap.size w w' := by
  have AW := Aside0.mk awake10_c
  have ME : Aside0 (∀ W, Calls Try.prog 9 #[.slice A xs.length c] W fun e w' => e = .returned (.tuple #[.pointer none, .agg (ramC (.slice none 0 0))]) ∧ KpN W w') := ⟨fun W => memory_no A c xs W hn⟩
  clear hn
  go_enter Try.func4, Try.ntmps4
  go_wp2_with (first
    | ((with_reducible refine gate_dst (N := 4) rfl ?_); refine bx_ev rfl rfl (N := 4) rfl (wayC sp kd md sum mxr) rfl ?_; intro k hg_k w1 hb_k hk_k; have Hg_k := Aside0.mk hg_k; clear hg_k)
    | (go_at_call 8; refine (AW.out _).mono ?_; rintro e w2 ⟨rfl, hk2⟩)
    | (go_at_call 9; refine (ME.out _).mono ?_; rintro e w3 ⟨rfl, hk3⟩)
    | ((with_reducible refine gate_dst (N := 8) rfl ?_); refine al_ev rfl rfl (N := 8) rfl _ (zeroM _) ?_; intro x hg_x w4 hb_x hk_x; have Hg_x := Aside0.mk hg_x; clear hg_x)
    | ((with_reducible refine gate_store (t := 30) (p := 8) rfl ?_); refine st_ev rfl rfl rfl x (ramC (.slice none 0 0)) _ _ rfl rfl (hb_x) infoM rfl ((by simp [Value.oneCell'])) ?_; intro w5 hs_w5 ks_w5))
  go_ret
  exact ⟨rfl, ((((hk_k.trans hk2).trans hk3).trans hk_x).then ks_w5 fun i hi (e : i = x) => by have := Hg_x.out; have := ((hk_k.trans hk2).trans hk3).size; omega).below (fun _ _ h => h.elim) (Nat.le_refl _)⟩
set_option maxHeartbeats 8000000 in
set_option maxRecDepth 100000 in
theorem rights_md (A : Option Addr) (c : Nat) (xs : List PW) (sp : Nat) (kd md : Int) (sum mxr : Bool) (va : Nat) (w : World) (hn : xs.length ≤ 60) (hC : Kd.C k72 w A xs.length xs) (hx : putOk xs) (m0 : md ≠ 0) (m1 : md ≠ 1) :
    Calls Try.prog 4 #[.slice A xs.length c, .agg (wayC sp kd md sum mxr), .int .u64 (va : Int)] w fun e w' => e = .returned (.bool true) ∧ Below w.heap.size w w' := by
  have AW := Aside0.mk awake10_c
  have ME : Aside0 (∀ W, KpN w W → Calls Try.prog 9 #[.slice A xs.length c] W (memPost xs W)) := ⟨fun W hW => memory_yes A c xs W hn (Kd.C_below hC (hW.below (fun _ _ h => h.elim) (Nat.le_refl _))) hx⟩
  have t0 : (md == 0) = false := beq_eq_false_iff_ne.2 m0
  have t1 : (md == 1) = false := beq_eq_false_iff_ne.2 m1
  have t0' : (md != 0) = true := by rw [bne, t0]; rfl
  have t1' : (md != 1) = true := by rw [bne, t1]; rfl
  clear hn hC hx m0 m1
  go_enter Try.func4, Try.ntmps4
  go_wp2_with (first
    | ((with_reducible refine gate_dst (N := 4) rfl ?_); refine bx_ev rfl rfl (N := 4) rfl (wayC sp kd md sum mxr) rfl ?_; intro k hg_k w1 hb_k hk_k; have Hg_k := Aside0.mk hg_k; clear hg_k)
    | (go_at_call 8; refine (AW.out _).mono ?_; rintro e w2 ⟨rfl, hk2⟩)
    | (go_at_call 9; refine (ME.out _ (hk_k.trans hk2)).mono ?_; rintro e w3 ⟨g, B, pg, A1, c1, n1, rfl, hR3, hL3, hk3, hlo⟩; have hY3 := ((Bk.mk hb_k).kp hk2 (fun h => h)).kp hk3 (fun h => h); clear hR3 hL3 hlo)
    | ((with_reducible refine gate_dst (N := 8) rfl ?_); refine al_ev rfl rfl (N := 8) rfl _ (zeroM _) ?_; intro x hg_x w4 hb_x hk_x; have Hg_x := Aside0.mk hg_x; clear hg_x)
    | (((with_reducible refine gate_store (t := 30) (p := 8) rfl ?_); refine st_ev rfl rfl rfl x (ramC (.slice A1 n1 c1)) _ _ rfl rfl (hb_x) infoM rfl ((by simp [Value.oneCell'])) ?_; intro w5 hs_w5 ks_w5); have hkx : k ≠ x := (by have := Hg_x.out; have := blk_lt hY3.blk; omega); have hY5 := (hY3.kp hk_x (fun h => h)).kp ks_w5 hkx; have c2 := hY5.c 2; rw [show (wayC sp kd md sum mxr)[2]? = some (.int .i64 md) from rfl] at c2))
  go_ret
  exact ⟨rfl, ((((hk_k.trans hk2).trans hk3).trans hk_x).then ks_w5 fun i hi (e : i = x) => by have := Hg_x.out; have := ((hk_k.trans hk2).trans hk3).size; omega).below (fun _ _ h => h.elim) (Nat.le_refl _)⟩
/-- What region 6 yields. -/
def r6 (w0 : World) (C : Array Value) (i : Nat) (v : Value) (w : World) : Prop :=
  match i with
  | 0 | 1 | 2 | 3 => v = .agg C
  | _ => ∃ g, v = .pointer (some ⟨g, 0, none⟩) ∧ w.heap[g]? = some (.cells zY YT (0, 0)) ∧ w0.heap.size ≤ g
theorem r6_stab {w0 : World} {C : Array Value} (i : Nat) (v : Value) (w w' : World) (h : r6 w0 C i v w) (hk : KpN w w') : r6 w0 C i v w' := by
  rcases i with _ | _ | _ | _ | i
  · exact h
  · exact h
  · exact h
  · exact h
  · obtain ⟨g, e, hb, hg⟩ := h
    exact ⟨g, e, (hk.block g (blk_lt hb) (fun h => h)).trans hb, hg⟩
def d6 (i : Nat) : Tmp := match i with | 0 => 36 | 1 => 37 | 2 => 38 | 3 => 39 | 4 => 9 | _ => 10
end Go.Proofs.Ytlhdildnekllhaa.H
/- Sv39Rights, walked by hand: where it is tried. Printed by wip/tools/lawrights.py. -/
namespace Go.Proofs.Ytlhdildnekllhaa.H
open Go.RowKit Go.Proofs.YtlhdildnekllhaaW.PrintWords Go.Proofs.YtlhdildnekllhaaW.PrintLast Go.Proofs.Ytlhdildnekllhaa.PAl Go.Proofs.Ytlhdildnekllhaa.Pure Go.Proofs.Ytlhdildnekllhaa.Vw
set_option linter.unusedVariables false
set_option linter.unusedSimpArgs false
def r8 (w0 : World) (g va : Nat) (Ca Cb Ra Rb : Array Value) (i : Nat) (v : Value) (w : World) : Prop :=
  match i with
  | 0 => v = .pointer (some ⟨g, 0, none⟩)
  | 1 => v = .agg Ca
  | 2 => v = .int .u64 (va : Int)
  | 3 => v = .agg Ra
  | 4 => v = .pointer (some ⟨g, 0, none⟩)
  | 5 => v = .agg Cb
  | 6 => v = .int .u64 (va : Int)
  | 7 => v = .agg Rb
  | _ => ∃ g, v = .pointer (some ⟨g, 0, none⟩) ∧ w.heap[g]? = some (.cells (RS.mk 0 false false 0).cells ST (0, 0)) ∧ w0.heap.size ≤ g
theorem r8_stab {w0 : World} {g va : Nat} {Ca Cb Ra Rb : Array Value} (i : Nat) (v : Value) (w w' : World) (h : r8 w0 g va Ca Cb Ra Rb i v w) (hk : KpN w w') : r8 w0 g va Ca Cb Ra Rb i v w' := by
  rcases i with _ | _ | _ | _ | _ | _ | _ | _ | i
  · exact h
  · exact h
  · exact h
  · exact h
  · exact h
  · exact h
  · exact h
  · exact h
  · obtain ⟨g, e, hb, hg⟩ := h
    exact ⟨g, e, (hk.block g (blk_lt hb) (fun h => h)).trans hb, hg⟩

def d8 (i : Nat) : Tmp := match i with | 0 => 42 | 1 => 43 | 2 => 44 | 3 => 45 | 4 => 46 | 5 => 47 | 6 => 48 | 7 => 49 | 8 => 11 | _ => 12
def d13 (i : Nat) : Tmp := match i with | 0 => 69 | 1 => 70 | 2 => 71 | 3 => 72 | 4 => 73 | 5 => 74 | 6 => 75 | 7 => 76 | 8 => 15 | _ => 16
set_option maxHeartbeats 8000000 in
set_option maxRecDepth 100000 in
theorem rights_0 (A : Option Addr) (c : Nat) (xs : List PW) (sp : Nat) (kd : Int) (sum mxr : Bool) (va : Nat) (w : World) (hn : xs.length ≤ 60) (hC : Kd.C k72 w A xs.length xs) (hx : putOk xs) (hp : U sp) (hv : U va) :
    Calls Try.prog 4 #[.slice A xs.length c, .agg (wayC sp kd 0 sum mxr), .int .u64 (va : Int)] w fun e w' => e = .returned (.bool true) ∧ Below w.heap.size w w' := by
  have AW := Aside0.mk awake10_c
  have ME : Aside0 (∀ W, KpN w W → Calls Try.prog 9 #[.slice A xs.length c] W (memPost xs W)) := ⟨fun W hW => memory_yes A c xs W hn (Kd.C_below hC (hW.below (fun _ _ h => h.elim) (Nat.le_refl _))) hx⟩
  have WY : Aside0 (∀ W, Calls Try.prog 13 #[.agg (wayC sp kd 0 sum mxr)] W fun e w' => e = .returned (.agg (wayC sp kd 0 sum mxr)) ∧ KpN W w') := ⟨way_c sp kd 0 sum mxr⟩
  have WK : Aside0 (∀ (kd md : Int) (sum mxr : Bool) (g B n : Nat) (pg : Nat → Option Nat) (M : Nat → Nat) W, Rm W g B n 32768 pg M → Calls Try.prog 12 #[.pointer (some ⟨g, 0, none⟩), .agg (wayC sp kd md sum mxr), .int .u64 (va : Int)] W fun e w' => e = .returned (.agg (walkW M 32768 sp kd md sum mxr va).cells) ∧ KpN W w') := ⟨fun kd md sum mxr g B n pg M W h => walk_c g B n 32768 pg M sp kd md sum mxr va W h (by decide) hp hv⟩
  clear hn hC hx

  go_enter Try.func4, Try.ntmps4
  go_wp2_with (first
    | ((with_reducible refine gate_dst (N := 4) rfl ?_); refine bx_ev rfl rfl (N := 4) rfl (wayC sp kd 0 sum mxr) rfl ?_; intro k hg_k w1 hb_k hk_k; have Hg_k := Aside0.mk hg_k; clear hg_k)
    | (go_at_call 8; refine (AW.out _).mono ?_; rintro e w2 ⟨rfl, hk2⟩)
    | (go_at_call 9; refine (ME.out _ (hk_k.trans hk2)).mono ?_; rintro e w3 ⟨g, B, pg, A1, c1, n1, rfl, hR3, hL3, hk3, hlo⟩; have hY3 := ((Bk.mk hb_k).kp hk2 (fun h => h)).kp hk3 (fun h => h); clear hL3 hlo)
    | ((with_reducible refine gate_dst (N := 8) rfl ?_); refine al_ev rfl rfl (N := 8) rfl _ (zeroM _) ?_; intro x hg_x w4 hb_x hk_x; have Hg_x := Aside0.mk hg_x; clear hg_x)
    | (((with_reducible refine gate_store (t := 30) (p := 8) rfl ?_); refine st_ev rfl rfl rfl x (ramC (.slice A1 n1 c1)) _ _ rfl rfl (hb_x) infoM rfl ((by simp [Value.oneCell'])) ?_; intro w5 hs_w5 ks_w5); have hkx : k ≠ x := (by have := Hg_x.out; have := blk_lt hY3.blk; omega); have hY5 := (hY3.kp hk_x (fun h => h)).kp ks_w5 hkx; have c2 := hY5.c 2; rw [show (wayC sp kd 0 sum mxr)[2]? = some (.int .i64 0) from rfl] at c2; have hR5 := (hR3.kpN hk_x).kp ks_w5 (fun i hi e => (hR3.kpN hk_x).off hb_x (by decide) (by decide) (e ▸ hi))))
  have K5 : KpN w w5 := (((hk_k.trans hk2).trans hk3).trans hk_x).then ks_w5 fun i hi (e : i = x) => by have := Hg_x.out; have := ((hk_k.trans hk2).trans hk3).size; omega
  clear hb_k hk_k Hg_k hk2 hk3 hY3 hb_x hk_x Hg_x hs_w5 ks_w5 hR3 hkx c2
  refine wp_region_slots 6 2 #[true, true, true, true, true, true, false, false] d6 (r6 w5 (wayC sp kd 0 sum mxr)) (fun i => decide (4 ≤ i)) (by kernel_rfl) (by kernel_rfl) rfl ?_ ?_ ?_ (fun i v w w' _ => r6_stab i v w w') ?_ ?_
  · intro i o hi ho
    rcases i with _ | _ | _ | _ | _ | _ | i
    all_goals first | (cases ho; rfl) | omega
  · intro i hi
    rcases i with _ | _ | _ | _ | _ | _ | i
    all_goals first | (show (_ : Nat) < 91; decide) | omega
  · intro i j hi hj h
    rcases i with _ | _ | _ | _ | _ | _ | i
    all_goals rcases j with _ | _ | _ | _ | _ | _ | j
    all_goals first | rfl | omega | (exact absurd h (by decide))
  · intro i o hi ho a W hW hA hdep
    rcases i with _ | _ | _ | _ | _ | _ | i
    · cases ho
      refine sS_ld rfl rfl k (hA.old 4 (by decide)) Y2 (wayC sp kd 0 sum mxr) _ (hY5.kp hW (fun h => h)).blk Try.underlying25 rfl infoY2 ⟨Kp.refl _ _, rfl, fun h => by cases h⟩
    · cases ho
      have h0 : a.tmps.getD 36 undef = _ := hdep 0 (by decide) (by kernel_rfl)
      refine sS_ca rfl rfl Try.func13 (by kernel_rfl) rfl #[.agg (wayC sp kd 0 sum mxr)] (by simp only [List.map_toArray, List.map_cons, List.map_nil]; rw [show a.eval (.tmp 36) = _ from h0]) ?_
      exact (WY.out W).mono fun e w' q => ⟨_, q.1, q.2, rfl, fun h => by cases h⟩
    · cases ho
      refine sS_ld rfl rfl k (hA.old 4 (by decide)) Y2 (wayC sp kd 0 sum mxr) _ (hY5.kp hW (fun h => h)).blk Try.underlying25 rfl infoY2 ⟨Kp.refl _ _, rfl, fun h => by cases h⟩
    · cases ho
      have h0 : a.tmps.getD 38 undef = _ := hdep 2 (by decide) (by kernel_rfl)
      refine sS_ca rfl rfl Try.func13 (by kernel_rfl) rfl #[.agg (wayC sp kd 0 sum mxr)] (by simp only [List.map_toArray, List.map_cons, List.map_nil]; rw [show a.eval (.tmp 38) = _ from h0]) ?_
      exact (WY.out W).mono fun e w' q => ⟨_, q.1, q.2, rfl, fun h => by cases h⟩
    · cases ho
      exact sS_al rfl rfl zY (zeroY _) fun g hg w1 hb hk => ⟨hk, ⟨g, rfl, hb, by have := hW.size; omega⟩, fun _ => ⟨by show _ ≤ g; omega, blk_lt hb⟩⟩
    · cases ho
      exact sS_al rfl rfl zY (zeroY _) fun g hg w1 hb hk => ⟨hk, ⟨g, rfl, hb, by have := hW.size; omega⟩, fun _ => ⟨by show _ ≤ g; omega, blk_lt hb⟩⟩
    · omega
  · intro v w6 hk6 hr hne
    have v1 : v 1 = .agg (wayC sp kd 0 sum mxr) := hr 1 (by decide)
    have v3 : v 3 = .agg (wayC sp kd 0 sum mxr) := hr 3 (by decide)
    have v0 : v 0 = .agg (wayC sp kd 0 sum mxr) := hr 0 (by decide)
    have v2 : v 2 = .agg (wayC sp kd 0 sum mxr) := hr 2 (by decide)
    obtain ⟨ga, v4, hba, hga⟩ := hr 4 (by decide)
    obtain ⟨gb, v5, hbb, hgb⟩ := hr 5 (by decide)
    have hgab : ga ≠ gb := by
      have := hne 4 5 (by decide) (by decide) (by decide) rfl rfl
      rw [v4, v5] at this
      exact this
    clear hr hne
    simp only [putN, d6, v0, v1, v2, v3, v4, v5, Act.put, List.setIfInBounds_toArray, List.set_cons_zero, List.set_cons_succ]

    refine any_1 (i := 6) (by kernel_rfl) rfl rfl (wp_st rfl rfl ga (wayC sp kd 0 sum mxr) zY YT rfl rfl hba infoY rfl (wayC_one _ _ _ _ _) fun w7 h7 k7 => ?_)
    have hbb7 := (k7.block gb (blk_lt hbb) (Ne.symm hgab)).trans hbb
    refine any_1 (i := 7) (by kernel_rfl) rfl rfl (wp_st rfl rfl gb (wayC sp kd 0 sum mxr) zY YT rfl rfl hbb7 infoY rfl (wayC_one _ _ _ _ _) fun w8 h8 k8 => ?_)
    refine wpAny_done (by kernel_rfl) ?_ _
    have hA8 : Bk w8 ga (wayC sp kd 0 sum mxr) YT := (Bk.mk h7).kp k8 hgab
    have hB8 : Bk w8 gb (wayC sp kd 0 sum mxr) YT := Bk.mk h8
    have hwa : w.heap.size ≤ ga := Nat.le_trans K5.size hga
    have hwb : w.heap.size ≤ gb := Nat.le_trans K5.size hgb
    have hR6 := hR5.kpN hk6
    have hR7 := hR6.kp k7 fun i hi (e : i = ga) => hR6.off hba (by decide) (by decide) (e ▸ hi)
    have hR8 := hR7.kp k8 fun i hi (e : i = gb) => hR7.off hbb7 (by decide) (by decide) (e ▸ hi)
    have K8 : KpN w w8 := (((K5.trans hk6).then k7 fun i hi (e : i = ga) => by omega)).then k8 fun i hi (e : i = gb) => by omega
    clear v0 v1 v2 v3 v4 v5 hba hbb hbb7 h7 h8 k7 k8 hR5 hR6 hR7 hY5 hk6 K5
    have fa := blk_frozen hA8.blk 1
    have hB8' : (w8.setCell ⟨ga, 1, none⟩ (.int .i64 2)).heap[gb]? = some (.cells (wayC sp kd 0 sum mxr) YT (0, 0)) := (Below.heap_setCell _ _ _ _ (Ne.symm hgab)).trans hB8.blk
    have fb := blk_frozen hB8' 1
    have cb : (w8.setCell ⟨ga, 1, none⟩ (.int .i64 2)).cell? ⟨gb, 1, none⟩ = some (.int .i64 kd) := blk_cell hB8' 1
    have ca : w8.cell? ⟨ga, 1, none⟩ = some (.int .i64 kd) := hA8.c 1
    go_wp2
    have hA9 : Bk ((w8.setCell ⟨ga, 1, none⟩ (.int .i64 2)).setCell ⟨gb, 1, none⟩ (.int .i64 1)) ga (wayC sp 2 0 sum mxr) YT := ⟨(Below.heap_setCell _ _ _ _ hgab).trans (blk_set hA8.blk 1 (.int .i64 2))⟩
    have hB9 : Bk ((w8.setCell ⟨ga, 1, none⟩ (.int .i64 2)).setCell ⟨gb, 1, none⟩ (.int .i64 1)) gb (wayC sp 1 0 sum mxr) YT := ⟨blk_set ((Below.heap_setCell _ _ _ _ (Ne.symm hgab)).trans hB8.blk) 1 (.int .i64 1)⟩
    have k89 : Kp w8 ((w8.setCell ⟨ga, 1, none⟩ (.int .i64 2)).setCell ⟨gb, 1, none⟩ (.int .i64 1)) (fun i => i = ga ∨ i = gb) := ((Kp.refl w8 (fun i => i = ga ∨ i = gb)).setCell (p := ⟨ga, 1, none⟩) (.inl (.inl rfl)) _).setCell (p := ⟨gb, 1, none⟩) (.inl (.inr rfl)) _
    generalize (w8.setCell ⟨ga, 1, none⟩ (.int .i64 2)).setCell ⟨gb, 1, none⟩ (.int .i64 1) = w9 at hA9 hB9 k89 ⊢
    have HR := Aside0.mk (hR8.kp k89 fun i hi (e : i = ga ∨ i = gb) => by rcases e with e | e; exact hR8.off hA8.blk (by decide) (by decide) (e ▸ hi); exact hR8.off hB8.blk (by decide) (by decide) (e ▸ hi))
    have K9 : KpN w w9 := K8.then k89 fun i hi (e : i = ga ∨ i = gb) => by omega
    clear hA8 hB8 hB8' hR8 k89 K8 fa fb ca cb
    obtain ⟨ra, hra⟩ : ∃ r, walkW (memM xs xs.length) 32768 sp 2 0 sum mxr va = r := ⟨_, rfl⟩
    obtain ⟨rb, hrb⟩ : ∃ r, walkW (memM xs xs.length) 32768 sp 1 0 sum mxr va = r := ⟨_, rfl⟩
    have hab : Aside0 (ra.fault = false → rb = ra) := ⟨fun h => by rw [← hra, ← hrb]; rw [← hra] at h; exact walkW_ok _ _ _ _ (store_load 0 sum mxr) rfl h⟩
    have LA : Aside0 (∀ W, Rm W g B (8 * xs.length) 32768 pg (memM xs xs.length) → Calls Try.prog 12 #[.pointer (some ⟨g, 0, none⟩), .agg (wayC sp 2 0 sum mxr), .int .u64 (va : Int)] W fun e w' => e = .returned (.agg ra.cells) ∧ KpN W w') := ⟨fun W h => by rw [← hra]; exact WK.out 2 0 sum mxr g B _ pg _ W h⟩
    have LB : Aside0 (∀ W, Rm W g B (8 * xs.length) 32768 pg (memM xs xs.length) → Calls Try.prog 12 #[.pointer (some ⟨g, 0, none⟩), .agg (wayC sp 1 0 sum mxr), .int .u64 (va : Int)] W fun e w' => e = .returned (.agg rb.cells) ∧ KpN W w') := ⟨fun W h => by rw [← hrb]; exact WK.out 1 0 sum mxr g B _ pg _ W h⟩
    obtain ⟨rc, hrc⟩ : ∃ r, walkW (memM xs xs.length) 32768 sp 1 0 sum mxr va = r := ⟨_, rfl⟩
    obtain ⟨rd_, hrd⟩ : ∃ r, walkW (memM xs xs.length) 32768 sp 1 1 true mxr va = r := ⟨_, rfl⟩
    have hcd : Aside0 (rc.fault = false → rd_ = rc) := ⟨fun h => by rw [← hrc, ← hrd]; rw [← hrc] at h; exact walkW_ok _ _ _ _ (user_super sum mxr) (bare01 sp 0 1 (.inl rfl) (.inr rfl)) h⟩
    have LC : Aside0 (∀ W, Rm W g B (8 * xs.length) 32768 pg (memM xs xs.length) → Calls Try.prog 12 #[.pointer (some ⟨g, 0, none⟩), .agg (wayC sp 1 0 sum mxr), .int .u64 (va : Int)] W fun e w' => e = .returned (.agg rc.cells) ∧ KpN W w') := ⟨fun W h => by rw [← hrc]; exact WK.out 1 0 sum mxr g B _ pg _ W h⟩
    have LD : Aside0 (∀ W, Rm W g B (8 * xs.length) 32768 pg (memM xs xs.length) → Calls Try.prog 12 #[.pointer (some ⟨g, 0, none⟩), .agg (wayC sp 1 1 true mxr), .int .u64 (va : Int)] W fun e w' => e = .returned (.agg rd_.cells) ∧ KpN W w') := ⟨fun W h => by rw [← hrd]; exact WK.out 1 1 true mxr g B _ pg _ W h⟩
    clear hra hrb hrc hrd
    refine wp_region_slots 10 2 #[true, true, true, true, true, true, true, true, true, true, false, false] d8 (r8 w9 g va (wayC sp 2 0 sum mxr) (wayC sp 1 0 sum mxr) (ra.cells) (rb.cells)) (fun i => decide (8 ≤ i)) (by kernel_rfl) (by kernel_rfl) rfl ?_ ?_ ?_ (fun i v w w' _ => r8_stab i v w w') ?_ ?_
    · intro i o hi ho
      rcases i with _ | _ | _ | _ | _ | _ | _ | _ | _ | _ | i
      all_goals first | (cases ho; rfl) | omega
    · intro i hi
      rcases i with _ | _ | _ | _ | _ | _ | _ | _ | _ | _ | i
      all_goals first | (show (_ : Nat) < 91; decide) | omega
    · intro i j hi hj h
      rcases i with _ | _ | _ | _ | _ | _ | _ | _ | _ | _ | i
      all_goals rcases j with _ | _ | _ | _ | _ | _ | _ | _ | _ | _ | j
      all_goals first | rfl | omega | (exact absurd h (by decide))
    · intro i o hi ho a W hW hA hdep
      rcases i with _ | _ | _ | _ | _ | _ | _ | _ | _ | _ | i
      · cases ho
        exact sS_mv rfl rfl ⟨Kp.refl _ _, hA.old 7 (by decide), fun h => by cases h⟩
      · cases ho
        exact sS_ld rfl rfl ga (hA.old 9 (by decide)) YT (wayC sp 2 0 sum mxr) _ ((hA9).kp hW (fun h => h)).blk Try.underlying40 rfl infoY ⟨Kp.refl _ _, rfl, fun h => by cases h⟩
      · cases ho
        exact sS_mv rfl rfl ⟨Kp.refl _ _, hA.old 2 (by decide), fun h => by cases h⟩
      · cases ho
        have h0 : a.tmps.getD 42 undef = _ := hdep 0 (by decide) (by kernel_rfl)
        have h1 : a.tmps.getD 43 undef = _ := hdep 1 (by decide) (by kernel_rfl)
        have h2 : a.tmps.getD 44 undef = _ := hdep 2 (by decide) (by kernel_rfl)
        refine sS_ca rfl rfl Try.func12 (by kernel_rfl) rfl #[.pointer (some ⟨g, 0, none⟩), .agg (wayC sp 2 0 sum mxr), .int .u64 (va : Int)] (by simp only [List.map_toArray, List.map_cons, List.map_nil]; rw [show a.eval (.tmp 42) = _ from h0, show a.eval (.tmp 43) = _ from h1, show a.eval (.tmp 44) = _ from h2]) ?_
        exact (LA.out W (HR.out.kpN hW)).mono fun e w' q => ⟨_, q.1, q.2, rfl, fun h => by cases h⟩
      · cases ho
        exact sS_mv rfl rfl ⟨Kp.refl _ _, hA.old 7 (by decide), fun h => by cases h⟩
      · cases ho
        exact sS_ld rfl rfl gb (hA.old 10 (by decide)) YT (wayC sp 1 0 sum mxr) _ ((hB9).kp hW (fun h => h)).blk Try.underlying40 rfl infoY ⟨Kp.refl _ _, rfl, fun h => by cases h⟩
      · cases ho
        exact sS_mv rfl rfl ⟨Kp.refl _ _, hA.old 2 (by decide), fun h => by cases h⟩
      · cases ho
        have h0 : a.tmps.getD 46 undef = _ := hdep 4 (by decide) (by kernel_rfl)
        have h1 : a.tmps.getD 47 undef = _ := hdep 5 (by decide) (by kernel_rfl)
        have h2 : a.tmps.getD 48 undef = _ := hdep 6 (by decide) (by kernel_rfl)
        refine sS_ca rfl rfl Try.func12 (by kernel_rfl) rfl #[.pointer (some ⟨g, 0, none⟩), .agg (wayC sp 1 0 sum mxr), .int .u64 (va : Int)] (by simp only [List.map_toArray, List.map_cons, List.map_nil]; rw [show a.eval (.tmp 46) = _ from h0, show a.eval (.tmp 47) = _ from h1, show a.eval (.tmp 48) = _ from h2]) ?_
        exact (LB.out W (HR.out.kpN hW)).mono fun e w' q => ⟨_, q.1, q.2, rfl, fun h => by cases h⟩
      · cases ho
        exact sS_al rfl rfl (RS.mk 0 false false 0).cells (zeroS _) fun g hg w1 hb hk => ⟨hk, ⟨g, rfl, hb, by have := hW.size; omega⟩, fun _ => ⟨by show _ ≤ g; omega, blk_lt hb⟩⟩
      · cases ho
        exact sS_al rfl rfl (RS.mk 0 false false 0).cells (zeroS _) fun g hg w1 hb hk => ⟨hk, ⟨g, rfl, hb, by have := hW.size; omega⟩, fun _ => ⟨by show _ ≤ g; omega, blk_lt hb⟩⟩
      · omega
    · intro v wx hkx hr hne
      have v0 := hr 0 (by decide)
      have v1 := hr 1 (by decide)
      have v2 := hr 2 (by decide)
      have v3 := hr 3 (by decide)
      have v4 := hr 4 (by decide)
      have v5 := hr 5 (by decide)
      have v6 := hr 6 (by decide)
      have v7 := hr 7 (by decide)
      obtain ⟨gc, v8, hbc, hgc⟩ := hr 8 (by decide)
      obtain ⟨gd, v9, hbd, hgd⟩ := hr 9 (by decide)
      have hgcd : gc ≠ gd := by
        have := hne 8 9 (by decide) (by decide) (by decide) rfl rfl
        rw [v8, v9] at this
        exact this
      clear hr hne
      simp only [r8] at v0 v1 v2 v3 v4 v5 v6 v7
      simp only [putN, d8, v0, v1, v2, v3, v4, v5, v6, v7, v8, v9, Act.put, List.setIfInBounds_toArray, List.set_cons_zero, List.set_cons_succ]
      clear v0 v1 v2 v3 v4 v5 v6 v7 v8 v9
      refine any_1 (i := 10) (by kernel_rfl) rfl rfl (wp_st rfl rfl gc ra.cells _ ST rfl rfl hbc infoS rfl (RS.one _) fun w10 h10 k10 => ?_)
      have hbd2 := (k10.block gd (blk_lt hbd) (Ne.symm hgcd)).trans hbd
      refine any_1 (i := 11) (by kernel_rfl) rfl rfl (wp_st rfl rfl gd rb.cells _ ST rfl rfl hbd2 infoS rfl (RS.one _) fun w11 h11 k11 => ?_)
      refine wpAny_done (by kernel_rfl) ?_ _
      have hC := (Bk.mk h10).kp k11 hgcd
      have hD := Bk.mk h11
      have hwc : w.heap.size ≤ gc := Nat.le_trans K9.size hgc
      have hwd : w.heap.size ≤ gd := Nat.le_trans K9.size hgd
      have Rx := HR.out.kpN hkx
      have Rx1 := Rx.kp k10 fun i hi (e : i = gc) => Rx.off hbc (by decide) (by decide) (e ▸ hi)
      have Rx2 := Aside0.mk (Rx1.kp k11 fun i hi (e : i = gd) => Rx1.off hbd2 (by decide) (by decide) (e ▸ hi))
      have hcb : gb ≠ gc := by have := blk_lt hB9.blk; omega
      have hdb : gb ≠ gd := by have := blk_lt hB9.blk; omega
      have hBx := ((hB9.kp hkx (fun h => h)).kp k10 hcb).kp k11 hdb
      have Kx : KpN w w11 := (((K9.trans hkx).then k10 fun i hi (e : i = gc) => by omega)).then k11 fun i hi (e : i = gd) => by omega
      clear hbc hbd hbd2 h10 h11 k10 k11 Rx Rx1 hcb hdb hA9 hB9 K9 HR hkx hgc hgd
      have c0 : w11.cell? ⟨gc, 0, none⟩ = some (.int .u64 (ra.addr : Int)) := hC.c 0
      have c1_ : w11.cell? ⟨gc, 1, none⟩ = some (.bool ra.fault) := hC.c 1
      have e0 : w11.cell? ⟨gd, 0, none⟩ = some (.int .u64 (rb.addr : Int)) := hD.c 0
      have e1 : w11.cell? ⟨gd, 1, none⟩ = some (.bool rb.fault) := hD.c 1
      have tt : ra.fault = true ∨ (ra.fault = false ∧ rb = ra) := by
        cases hf : ra.fault
        · exact .inr ⟨rfl, hab.out hf⟩
        · exact .inl rfl
      clear hab LA LB
      have step : ∀ (b1 : Bool) (n1 n2 : Int) (b2 : Bool), True := fun _ _ _ _ => trivial
      clear step
      rcases tt with tt | ⟨tt, tr⟩
      · rw [tt] at c1_
        go_wp2_with (fail)
        clear c0 c1_ e0 e1 tt hC hD
        refine pair_out (by kernel_rfl) rfl rfl rfl rfl rfl rfl (by kernel_rfl) (by kernel_rfl) (by kernel_rfl) (by kernel_rfl) (by kernel_rfl) (by kernel_rfl) (by kernel_rfl) (by kernel_rfl) (by kernel_rfl) (by kernel_rfl) (by kernel_rfl) rfl rfl rfl rfl rfl rfl rfl rfl Try.underlying40 rfl gb (wayC sp 1 0 sum mxr) zY zeroY infoY rfl (wayC_one _ _ _ _ _) hBx.blk ⟨fun _ _ _ h => h, fun _ _ _ h => h⟩ rfl rfl (fun _ _ => rfl) (fun _ _ => rfl) (fun _ _ => rfl) (fun _ _ => rfl) (fun _ _ => rfl) ?_
        intro ge gf w12 hgef hge hgf he hf k12
        simp only [Act.put, List.setIfInBounds_toArray, List.set_cons_zero, List.set_cons_succ]
        have hwe : w.heap.size ≤ ge := Nat.le_trans Kx.size hge
        have hwf : w.heap.size ≤ gf := Nat.le_trans Kx.size hgf
        have K12 := Kx.trans k12
        have R12 := Rx2.out.kpN k12
        have hF1 : (w12.setCell ⟨ge, 2, none⟩ (.int .i64 0)).heap[gf]? = some (.cells (wayC sp 1 0 sum mxr) YT (0, 0)) := (Below.heap_setCell _ _ _ _ (Ne.symm hgef)).trans hf
        have hF2 := blk_set hF1 2 (.int .i64 1)
        have u1 : w12.cell? ⟨ge, 2, none⟩ = some (.int .i64 0) := blk_cell he 2
        have u2 := blk_frozen he 2
        have u3 : (w12.setCell ⟨ge, 2, none⟩ (.int .i64 0)).cell? ⟨gf, 2, none⟩ = some (.int .i64 0) := blk_cell hF1 2
        have u4 := blk_frozen hF1 2
        have u5 : ((w12.setCell ⟨ge, 2, none⟩ (.int .i64 0)).setCell ⟨gf, 2, none⟩ (.int .i64 1)).cell? ⟨gf, 3, none⟩ = some (.bool sum) := blk_cell hF2 3
        have u6 := blk_frozen hF2 3
        have hF3 : Bk (((w12.setCell ⟨ge, 2, none⟩ (.int .i64 0)).setCell ⟨gf, 2, none⟩ (.int .i64 1)).setCell ⟨gf, 3, none⟩ (.bool true)) gf (wayC sp 1 1 true mxr) YT := ⟨blk_set hF2 3 (.bool true)⟩
        have hE3 : Bk (((w12.setCell ⟨ge, 2, none⟩ (.int .i64 0)).setCell ⟨gf, 2, none⟩ (.int .i64 1)).setCell ⟨gf, 3, none⟩ (.bool true)) ge (wayC sp 1 0 sum mxr) YT := ⟨(Below.heap_setCell _ _ _ _ hgef).trans ((Below.heap_setCell _ _ _ _ hgef).trans (blk_set he 2 (.int .i64 0)))⟩
        have k13 : Kp w12 (((w12.setCell ⟨ge, 2, none⟩ (.int .i64 0)).setCell ⟨gf, 2, none⟩ (.int .i64 1)).setCell ⟨gf, 3, none⟩ (.bool true)) (fun i => i = ge ∨ i = gf) := (((Kp.refl w12 (fun i => i = ge ∨ i = gf)).setCell (p := ⟨ge, 2, none⟩) (.inl (.inl rfl)) _).setCell (p := ⟨gf, 2, none⟩) (.inl (.inr rfl)) _).setCell (p := ⟨gf, 3, none⟩) (.inl (.inr rfl)) _
        clear hF2
        go_wp2
        generalize ((w12.setCell ⟨ge, 2, none⟩ (.int .i64 0)).setCell ⟨gf, 2, none⟩ (.int .i64 1)).setCell ⟨gf, 3, none⟩ (.bool true) = w13 at hE3 hF3 k13 ⊢
        have HR := Aside0.mk (R12.kp k13 fun i hi (e : i = ge ∨ i = gf) => by rcases e with e | e; exact R12.off he (by decide) (by decide) (e ▸ hi); exact R12.off hf (by decide) (by decide) (e ▸ hi))
        have K13 : KpN w w13 := K12.then k13 fun i hi (e : i = ge ∨ i = gf) => by omega
        clear he hf k12 K12 R12 hF1 u1 u2 u3 u4 u5 u6 k13 Rx2 hBx Kx hge hgf
        refine wp_region_slots 10 2 #[true, true, true, true, true, true, true, true, true, true, false, false] d13 (r8 w13 g va (wayC sp 1 0 sum mxr) (wayC sp 1 1 true mxr) (rc.cells) (rd_.cells)) (fun i => decide (8 ≤ i)) (by kernel_rfl) (by kernel_rfl) rfl ?_ ?_ ?_ (fun i v w w' _ => r8_stab i v w w') ?_ ?_
        · intro i o hi ho
          rcases i with _ | _ | _ | _ | _ | _ | _ | _ | _ | _ | i
          all_goals first | (cases ho; rfl) | omega
        · intro i hi
          rcases i with _ | _ | _ | _ | _ | _ | _ | _ | _ | _ | i
          all_goals first | (show (_ : Nat) < 91; decide) | omega
        · intro i j hi hj h
          rcases i with _ | _ | _ | _ | _ | _ | _ | _ | _ | _ | i
          all_goals rcases j with _ | _ | _ | _ | _ | _ | _ | _ | _ | _ | j
          all_goals first | rfl | omega | (exact absurd h (by decide))
        · intro i o hi ho a W hW hA hdep
          rcases i with _ | _ | _ | _ | _ | _ | _ | _ | _ | _ | i
          · cases ho
            exact sS_mv rfl rfl ⟨Kp.refl _ _, hA.old 7 (by decide), fun h => by cases h⟩
          · cases ho
            exact sS_ld rfl rfl ge (hA.old 13 (by decide)) YT (wayC sp 1 0 sum mxr) _ ((hE3).kp hW (fun h => h)).blk Try.underlying40 rfl infoY ⟨Kp.refl _ _, rfl, fun h => by cases h⟩
          · cases ho
            exact sS_mv rfl rfl ⟨Kp.refl _ _, hA.old 2 (by decide), fun h => by cases h⟩
          · cases ho
            have h0 : a.tmps.getD 69 undef = _ := hdep 0 (by decide) (by kernel_rfl)
            have h1 : a.tmps.getD 70 undef = _ := hdep 1 (by decide) (by kernel_rfl)
            have h2 : a.tmps.getD 71 undef = _ := hdep 2 (by decide) (by kernel_rfl)
            refine sS_ca rfl rfl Try.func12 (by kernel_rfl) rfl #[.pointer (some ⟨g, 0, none⟩), .agg (wayC sp 1 0 sum mxr), .int .u64 (va : Int)] (by simp only [List.map_toArray, List.map_cons, List.map_nil]; rw [show a.eval (.tmp 69) = _ from h0, show a.eval (.tmp 70) = _ from h1, show a.eval (.tmp 71) = _ from h2]) ?_
            exact (LC.out W (HR.out.kpN hW)).mono fun e w' q => ⟨_, q.1, q.2, rfl, fun h => by cases h⟩
          · cases ho
            exact sS_mv rfl rfl ⟨Kp.refl _ _, hA.old 7 (by decide), fun h => by cases h⟩
          · cases ho
            exact sS_ld rfl rfl gf (hA.old 14 (by decide)) YT (wayC sp 1 1 true mxr) _ ((hF3).kp hW (fun h => h)).blk Try.underlying40 rfl infoY ⟨Kp.refl _ _, rfl, fun h => by cases h⟩
          · cases ho
            exact sS_mv rfl rfl ⟨Kp.refl _ _, hA.old 2 (by decide), fun h => by cases h⟩
          · cases ho
            have h0 : a.tmps.getD 73 undef = _ := hdep 4 (by decide) (by kernel_rfl)
            have h1 : a.tmps.getD 74 undef = _ := hdep 5 (by decide) (by kernel_rfl)
            have h2 : a.tmps.getD 75 undef = _ := hdep 6 (by decide) (by kernel_rfl)
            refine sS_ca rfl rfl Try.func12 (by kernel_rfl) rfl #[.pointer (some ⟨g, 0, none⟩), .agg (wayC sp 1 1 true mxr), .int .u64 (va : Int)] (by simp only [List.map_toArray, List.map_cons, List.map_nil]; rw [show a.eval (.tmp 73) = _ from h0, show a.eval (.tmp 74) = _ from h1, show a.eval (.tmp 75) = _ from h2]) ?_
            exact (LD.out W (HR.out.kpN hW)).mono fun e w' q => ⟨_, q.1, q.2, rfl, fun h => by cases h⟩
          · cases ho
            exact sS_al rfl rfl (RS.mk 0 false false 0).cells (zeroS _) fun g hg w1 hb hk => ⟨hk, ⟨g, rfl, hb, by have := hW.size; omega⟩, fun _ => ⟨by show _ ≤ g; omega, blk_lt hb⟩⟩
          · cases ho
            exact sS_al rfl rfl (RS.mk 0 false false 0).cells (zeroS _) fun g hg w1 hb hk => ⟨hk, ⟨g, rfl, hb, by have := hW.size; omega⟩, fun _ => ⟨by show _ ≤ g; omega, blk_lt hb⟩⟩
          · omega
        · intro v wy hky hr hne
          have v0 := hr 0 (by decide)
          have v1 := hr 1 (by decide)
          have v2 := hr 2 (by decide)
          have v3 := hr 3 (by decide)
          have v4 := hr 4 (by decide)
          have v5 := hr 5 (by decide)
          have v6 := hr 6 (by decide)
          have v7 := hr 7 (by decide)
          obtain ⟨gh, v8, hbc, hgc⟩ := hr 8 (by decide)
          obtain ⟨gi, v9, hbd, hgd⟩ := hr 9 (by decide)
          have hghi : gh ≠ gi := by
            have := hne 8 9 (by decide) (by decide) (by decide) rfl rfl
            rw [v8, v9] at this
            exact this
          clear hr hne
          simp only [r8] at v0 v1 v2 v3 v4 v5 v6 v7
          simp only [putN, d13, v0, v1, v2, v3, v4, v5, v6, v7, v8, v9, Act.put, List.setIfInBounds_toArray, List.set_cons_zero, List.set_cons_succ]
          clear v0 v1 v2 v3 v4 v5 v6 v7 v8 v9
          refine any_1 (i := 10) (by kernel_rfl) rfl rfl (wp_st rfl rfl gh rc.cells _ ST rfl rfl hbc infoS rfl (RS.one _) fun w14 h14 k14 => ?_)
          have hbd2 := (k14.block gi (blk_lt hbd) (Ne.symm hghi)).trans hbd
          refine any_1 (i := 11) (by kernel_rfl) rfl rfl (wp_st rfl rfl gi rd_.cells _ ST rfl rfl hbd2 infoS rfl (RS.one _) fun w15 h15 k15 => ?_)
          refine wpAny_done (by kernel_rfl) ?_ _
          have hC := (Bk.mk h14).kp k15 hghi
          have hD := Bk.mk h15
          have hwg : w.heap.size ≤ gh := Nat.le_trans K13.size hgc
          have hwi : w.heap.size ≤ gi := Nat.le_trans K13.size hgd
          have Ky : KpN w w15 := (((K13.trans hky).then k14 fun i hi (e : i = gh) => by omega)).then k15 fun i hi (e : i = gi) => by omega
          clear hbc hbd hbd2 h14 h15 k14 k15 hE3 hF3 K13 HR hky hgc hgd
          have c0 : w15.cell? ⟨gh, 0, none⟩ = some (.int .u64 (rc.addr : Int)) := hC.c 0
          have c1_ : w15.cell? ⟨gh, 1, none⟩ = some (.bool rc.fault) := hC.c 1
          have e0 : w15.cell? ⟨gi, 0, none⟩ = some (.int .u64 (rd_.addr : Int)) := hD.c 0
          have e1 : w15.cell? ⟨gi, 1, none⟩ = some (.bool rd_.fault) := hD.c 1
          have tt : rc.fault = true ∨ (rc.fault = false ∧ rd_ = rc) := by
            cases hf : rc.fault
            · exact .inr ⟨rfl, hcd.out hf⟩
            · exact .inl rfl
          clear hcd LC LD
          rcases tt with tt | ⟨tt, tr⟩
          · rw [tt] at c1_
            go_wp2
            go_ret
            exact ⟨rfl, Ky.below (fun _ _ h => h.elim) (Nat.le_refl _)⟩
          · subst tr
            rw [tt] at c1_ e1
            go_wp2
            go_ret
            exact ⟨rfl, Ky.below (fun _ _ h => h.elim) (Nat.le_refl _)⟩
      · subst tr
        rw [tt] at c1_ e1
        go_wp2_with (fail)
        clear c0 c1_ e0 e1 tt hC hD
        refine pair_out (by kernel_rfl) rfl rfl rfl rfl rfl rfl (by kernel_rfl) (by kernel_rfl) (by kernel_rfl) (by kernel_rfl) (by kernel_rfl) (by kernel_rfl) (by kernel_rfl) (by kernel_rfl) (by kernel_rfl) (by kernel_rfl) (by kernel_rfl) rfl rfl rfl rfl rfl rfl rfl rfl Try.underlying40 rfl gb (wayC sp 1 0 sum mxr) zY zeroY infoY rfl (wayC_one _ _ _ _ _) hBx.blk ⟨fun _ _ _ h => h, fun _ _ _ h => h⟩ rfl rfl (fun _ _ => rfl) (fun _ _ => rfl) (fun _ _ => rfl) (fun _ _ => rfl) (fun _ _ => rfl) ?_
        intro ge gf w12 hgef hge hgf he hf k12
        simp only [Act.put, List.setIfInBounds_toArray, List.set_cons_zero, List.set_cons_succ]
        have hwe : w.heap.size ≤ ge := Nat.le_trans Kx.size hge
        have hwf : w.heap.size ≤ gf := Nat.le_trans Kx.size hgf
        have K12 := Kx.trans k12
        have R12 := Rx2.out.kpN k12
        have hF1 : (w12.setCell ⟨ge, 2, none⟩ (.int .i64 0)).heap[gf]? = some (.cells (wayC sp 1 0 sum mxr) YT (0, 0)) := (Below.heap_setCell _ _ _ _ (Ne.symm hgef)).trans hf
        have hF2 := blk_set hF1 2 (.int .i64 1)
        have u1 : w12.cell? ⟨ge, 2, none⟩ = some (.int .i64 0) := blk_cell he 2
        have u2 := blk_frozen he 2
        have u3 : (w12.setCell ⟨ge, 2, none⟩ (.int .i64 0)).cell? ⟨gf, 2, none⟩ = some (.int .i64 0) := blk_cell hF1 2
        have u4 := blk_frozen hF1 2
        have u5 : ((w12.setCell ⟨ge, 2, none⟩ (.int .i64 0)).setCell ⟨gf, 2, none⟩ (.int .i64 1)).cell? ⟨gf, 3, none⟩ = some (.bool sum) := blk_cell hF2 3
        have u6 := blk_frozen hF2 3
        have hF3 : Bk (((w12.setCell ⟨ge, 2, none⟩ (.int .i64 0)).setCell ⟨gf, 2, none⟩ (.int .i64 1)).setCell ⟨gf, 3, none⟩ (.bool true)) gf (wayC sp 1 1 true mxr) YT := ⟨blk_set hF2 3 (.bool true)⟩
        have hE3 : Bk (((w12.setCell ⟨ge, 2, none⟩ (.int .i64 0)).setCell ⟨gf, 2, none⟩ (.int .i64 1)).setCell ⟨gf, 3, none⟩ (.bool true)) ge (wayC sp 1 0 sum mxr) YT := ⟨(Below.heap_setCell _ _ _ _ hgef).trans ((Below.heap_setCell _ _ _ _ hgef).trans (blk_set he 2 (.int .i64 0)))⟩
        have k13 : Kp w12 (((w12.setCell ⟨ge, 2, none⟩ (.int .i64 0)).setCell ⟨gf, 2, none⟩ (.int .i64 1)).setCell ⟨gf, 3, none⟩ (.bool true)) (fun i => i = ge ∨ i = gf) := (((Kp.refl w12 (fun i => i = ge ∨ i = gf)).setCell (p := ⟨ge, 2, none⟩) (.inl (.inl rfl)) _).setCell (p := ⟨gf, 2, none⟩) (.inl (.inr rfl)) _).setCell (p := ⟨gf, 3, none⟩) (.inl (.inr rfl)) _
        clear hF2
        go_wp2
        generalize ((w12.setCell ⟨ge, 2, none⟩ (.int .i64 0)).setCell ⟨gf, 2, none⟩ (.int .i64 1)).setCell ⟨gf, 3, none⟩ (.bool true) = w13 at hE3 hF3 k13 ⊢
        have HR := Aside0.mk (R12.kp k13 fun i hi (e : i = ge ∨ i = gf) => by rcases e with e | e; exact R12.off he (by decide) (by decide) (e ▸ hi); exact R12.off hf (by decide) (by decide) (e ▸ hi))
        have K13 : KpN w w13 := K12.then k13 fun i hi (e : i = ge ∨ i = gf) => by omega
        clear he hf k12 K12 R12 hF1 u1 u2 u3 u4 u5 u6 k13 Rx2 hBx Kx hge hgf
        refine wp_region_slots 10 2 #[true, true, true, true, true, true, true, true, true, true, false, false] d13 (r8 w13 g va (wayC sp 1 0 sum mxr) (wayC sp 1 1 true mxr) (rc.cells) (rd_.cells)) (fun i => decide (8 ≤ i)) (by kernel_rfl) (by kernel_rfl) rfl ?_ ?_ ?_ (fun i v w w' _ => r8_stab i v w w') ?_ ?_
        · intro i o hi ho
          rcases i with _ | _ | _ | _ | _ | _ | _ | _ | _ | _ | i
          all_goals first | (cases ho; rfl) | omega
        · intro i hi
          rcases i with _ | _ | _ | _ | _ | _ | _ | _ | _ | _ | i
          all_goals first | (show (_ : Nat) < 91; decide) | omega
        · intro i j hi hj h
          rcases i with _ | _ | _ | _ | _ | _ | _ | _ | _ | _ | i
          all_goals rcases j with _ | _ | _ | _ | _ | _ | _ | _ | _ | _ | j
          all_goals first | rfl | omega | (exact absurd h (by decide))
        · intro i o hi ho a W hW hA hdep
          rcases i with _ | _ | _ | _ | _ | _ | _ | _ | _ | _ | i
          · cases ho
            exact sS_mv rfl rfl ⟨Kp.refl _ _, hA.old 7 (by decide), fun h => by cases h⟩
          · cases ho
            exact sS_ld rfl rfl ge (hA.old 13 (by decide)) YT (wayC sp 1 0 sum mxr) _ ((hE3).kp hW (fun h => h)).blk Try.underlying40 rfl infoY ⟨Kp.refl _ _, rfl, fun h => by cases h⟩
          · cases ho
            exact sS_mv rfl rfl ⟨Kp.refl _ _, hA.old 2 (by decide), fun h => by cases h⟩
          · cases ho
            have h0 : a.tmps.getD 69 undef = _ := hdep 0 (by decide) (by kernel_rfl)
            have h1 : a.tmps.getD 70 undef = _ := hdep 1 (by decide) (by kernel_rfl)
            have h2 : a.tmps.getD 71 undef = _ := hdep 2 (by decide) (by kernel_rfl)
            refine sS_ca rfl rfl Try.func12 (by kernel_rfl) rfl #[.pointer (some ⟨g, 0, none⟩), .agg (wayC sp 1 0 sum mxr), .int .u64 (va : Int)] (by simp only [List.map_toArray, List.map_cons, List.map_nil]; rw [show a.eval (.tmp 69) = _ from h0, show a.eval (.tmp 70) = _ from h1, show a.eval (.tmp 71) = _ from h2]) ?_
            exact (LC.out W (HR.out.kpN hW)).mono fun e w' q => ⟨_, q.1, q.2, rfl, fun h => by cases h⟩
          · cases ho
            exact sS_mv rfl rfl ⟨Kp.refl _ _, hA.old 7 (by decide), fun h => by cases h⟩
          · cases ho
            exact sS_ld rfl rfl gf (hA.old 14 (by decide)) YT (wayC sp 1 1 true mxr) _ ((hF3).kp hW (fun h => h)).blk Try.underlying40 rfl infoY ⟨Kp.refl _ _, rfl, fun h => by cases h⟩
          · cases ho
            exact sS_mv rfl rfl ⟨Kp.refl _ _, hA.old 2 (by decide), fun h => by cases h⟩
          · cases ho
            have h0 : a.tmps.getD 73 undef = _ := hdep 4 (by decide) (by kernel_rfl)
            have h1 : a.tmps.getD 74 undef = _ := hdep 5 (by decide) (by kernel_rfl)
            have h2 : a.tmps.getD 75 undef = _ := hdep 6 (by decide) (by kernel_rfl)
            refine sS_ca rfl rfl Try.func12 (by kernel_rfl) rfl #[.pointer (some ⟨g, 0, none⟩), .agg (wayC sp 1 1 true mxr), .int .u64 (va : Int)] (by simp only [List.map_toArray, List.map_cons, List.map_nil]; rw [show a.eval (.tmp 73) = _ from h0, show a.eval (.tmp 74) = _ from h1, show a.eval (.tmp 75) = _ from h2]) ?_
            exact (LD.out W (HR.out.kpN hW)).mono fun e w' q => ⟨_, q.1, q.2, rfl, fun h => by cases h⟩
          · cases ho
            exact sS_al rfl rfl (RS.mk 0 false false 0).cells (zeroS _) fun g hg w1 hb hk => ⟨hk, ⟨g, rfl, hb, by have := hW.size; omega⟩, fun _ => ⟨by show _ ≤ g; omega, blk_lt hb⟩⟩
          · cases ho
            exact sS_al rfl rfl (RS.mk 0 false false 0).cells (zeroS _) fun g hg w1 hb hk => ⟨hk, ⟨g, rfl, hb, by have := hW.size; omega⟩, fun _ => ⟨by show _ ≤ g; omega, blk_lt hb⟩⟩
          · omega
        · intro v wy hky hr hne
          have v0 := hr 0 (by decide)
          have v1 := hr 1 (by decide)
          have v2 := hr 2 (by decide)
          have v3 := hr 3 (by decide)
          have v4 := hr 4 (by decide)
          have v5 := hr 5 (by decide)
          have v6 := hr 6 (by decide)
          have v7 := hr 7 (by decide)
          obtain ⟨gh, v8, hbc, hgc⟩ := hr 8 (by decide)
          obtain ⟨gi, v9, hbd, hgd⟩ := hr 9 (by decide)
          have hghi : gh ≠ gi := by
            have := hne 8 9 (by decide) (by decide) (by decide) rfl rfl
            rw [v8, v9] at this
            exact this
          clear hr hne
          simp only [r8] at v0 v1 v2 v3 v4 v5 v6 v7
          simp only [putN, d13, v0, v1, v2, v3, v4, v5, v6, v7, v8, v9, Act.put, List.setIfInBounds_toArray, List.set_cons_zero, List.set_cons_succ]
          clear v0 v1 v2 v3 v4 v5 v6 v7 v8 v9
          refine any_1 (i := 10) (by kernel_rfl) rfl rfl (wp_st rfl rfl gh rc.cells _ ST rfl rfl hbc infoS rfl (RS.one _) fun w14 h14 k14 => ?_)
          have hbd2 := (k14.block gi (blk_lt hbd) (Ne.symm hghi)).trans hbd
          refine any_1 (i := 11) (by kernel_rfl) rfl rfl (wp_st rfl rfl gi rd_.cells _ ST rfl rfl hbd2 infoS rfl (RS.one _) fun w15 h15 k15 => ?_)
          refine wpAny_done (by kernel_rfl) ?_ _
          have hC := (Bk.mk h14).kp k15 hghi
          have hD := Bk.mk h15
          have hwg : w.heap.size ≤ gh := Nat.le_trans K13.size hgc
          have hwi : w.heap.size ≤ gi := Nat.le_trans K13.size hgd
          have Ky : KpN w w15 := (((K13.trans hky).then k14 fun i hi (e : i = gh) => by omega)).then k15 fun i hi (e : i = gi) => by omega
          clear hbc hbd hbd2 h14 h15 k14 k15 hE3 hF3 K13 HR hky hgc hgd
          have c0 : w15.cell? ⟨gh, 0, none⟩ = some (.int .u64 (rc.addr : Int)) := hC.c 0
          have c1_ : w15.cell? ⟨gh, 1, none⟩ = some (.bool rc.fault) := hC.c 1
          have e0 : w15.cell? ⟨gi, 0, none⟩ = some (.int .u64 (rd_.addr : Int)) := hD.c 0
          have e1 : w15.cell? ⟨gi, 1, none⟩ = some (.bool rd_.fault) := hD.c 1
          have tt : rc.fault = true ∨ (rc.fault = false ∧ rd_ = rc) := by
            cases hf : rc.fault
            · exact .inr ⟨rfl, hcd.out hf⟩
            · exact .inl rfl
          clear hcd LC LD
          rcases tt with tt | ⟨tt, tr⟩
          · rw [tt] at c1_
            go_wp2
            go_ret
            exact ⟨rfl, Ky.below (fun _ _ h => h.elim) (Nat.le_refl _)⟩
          · subst tr
            rw [tt] at c1_ e1
            go_wp2
            go_ret
            exact ⟨rfl, Ky.below (fun _ _ h => h.elim) (Nat.le_refl _)⟩
set_option maxHeartbeats 8000000 in
set_option maxRecDepth 100000 in
theorem rights_1 (A : Option Addr) (c : Nat) (xs : List PW) (sp : Nat) (kd : Int) (sum mxr : Bool) (va : Nat) (w : World) (hn : xs.length ≤ 60) (hC : Kd.C k72 w A xs.length xs) (hx : putOk xs) (hp : U sp) (hv : U va) :
    Calls Try.prog 4 #[.slice A xs.length c, .agg (wayC sp kd 1 sum mxr), .int .u64 (va : Int)] w fun e w' => e = .returned (.bool true) ∧ Below w.heap.size w w' := by
  have AW := Aside0.mk awake10_c
  have ME : Aside0 (∀ W, KpN w W → Calls Try.prog 9 #[.slice A xs.length c] W (memPost xs W)) := ⟨fun W hW => memory_yes A c xs W hn (Kd.C_below hC (hW.below (fun _ _ h => h.elim) (Nat.le_refl _))) hx⟩
  have WY : Aside0 (∀ W, Calls Try.prog 13 #[.agg (wayC sp kd 1 sum mxr)] W fun e w' => e = .returned (.agg (wayC sp kd 1 sum mxr)) ∧ KpN W w') := ⟨way_c sp kd 1 sum mxr⟩
  have WK : Aside0 (∀ (kd md : Int) (sum mxr : Bool) (g B n : Nat) (pg : Nat → Option Nat) (M : Nat → Nat) W, Rm W g B n 32768 pg M → Calls Try.prog 12 #[.pointer (some ⟨g, 0, none⟩), .agg (wayC sp kd md sum mxr), .int .u64 (va : Int)] W fun e w' => e = .returned (.agg (walkW M 32768 sp kd md sum mxr va).cells) ∧ KpN W w') := ⟨fun kd md sum mxr g B n pg M W h => walk_c g B n 32768 pg M sp kd md sum mxr va W h (by decide) hp hv⟩
  clear hn hC hx

  go_enter Try.func4, Try.ntmps4
  go_wp2_with (first
    | ((with_reducible refine gate_dst (N := 4) rfl ?_); refine bx_ev rfl rfl (N := 4) rfl (wayC sp kd 1 sum mxr) rfl ?_; intro k hg_k w1 hb_k hk_k; have Hg_k := Aside0.mk hg_k; clear hg_k)
    | (go_at_call 8; refine (AW.out _).mono ?_; rintro e w2 ⟨rfl, hk2⟩)
    | (go_at_call 9; refine (ME.out _ (hk_k.trans hk2)).mono ?_; rintro e w3 ⟨g, B, pg, A1, c1, n1, rfl, hR3, hL3, hk3, hlo⟩; have hY3 := ((Bk.mk hb_k).kp hk2 (fun h => h)).kp hk3 (fun h => h); clear hL3 hlo)
    | ((with_reducible refine gate_dst (N := 8) rfl ?_); refine al_ev rfl rfl (N := 8) rfl _ (zeroM _) ?_; intro x hg_x w4 hb_x hk_x; have Hg_x := Aside0.mk hg_x; clear hg_x)
    | (((with_reducible refine gate_store (t := 30) (p := 8) rfl ?_); refine st_ev rfl rfl rfl x (ramC (.slice A1 n1 c1)) _ _ rfl rfl (hb_x) infoM rfl ((by simp [Value.oneCell'])) ?_; intro w5 hs_w5 ks_w5); have hkx : k ≠ x := (by have := Hg_x.out; have := blk_lt hY3.blk; omega); have hY5 := (hY3.kp hk_x (fun h => h)).kp ks_w5 hkx; have c2 := hY5.c 2; rw [show (wayC sp kd 1 sum mxr)[2]? = some (.int .i64 1) from rfl] at c2; have hR5 := (hR3.kpN hk_x).kp ks_w5 (fun i hi e => (hR3.kpN hk_x).off hb_x (by decide) (by decide) (e ▸ hi))))
  have K5 : KpN w w5 := (((hk_k.trans hk2).trans hk3).trans hk_x).then ks_w5 fun i hi (e : i = x) => by have := Hg_x.out; have := ((hk_k.trans hk2).trans hk3).size; omega
  clear hb_k hk_k Hg_k hk2 hk3 hY3 hb_x hk_x Hg_x hs_w5 ks_w5 hR3 hkx c2
  refine wp_region_slots 6 2 #[true, true, true, true, true, true, false, false] d6 (r6 w5 (wayC sp kd 1 sum mxr)) (fun i => decide (4 ≤ i)) (by kernel_rfl) (by kernel_rfl) rfl ?_ ?_ ?_ (fun i v w w' _ => r6_stab i v w w') ?_ ?_
  · intro i o hi ho
    rcases i with _ | _ | _ | _ | _ | _ | i
    all_goals first | (cases ho; rfl) | omega
  · intro i hi
    rcases i with _ | _ | _ | _ | _ | _ | i
    all_goals first | (show (_ : Nat) < 91; decide) | omega
  · intro i j hi hj h
    rcases i with _ | _ | _ | _ | _ | _ | i
    all_goals rcases j with _ | _ | _ | _ | _ | _ | j
    all_goals first | rfl | omega | (exact absurd h (by decide))
  · intro i o hi ho a W hW hA hdep
    rcases i with _ | _ | _ | _ | _ | _ | i
    · cases ho
      refine sS_ld rfl rfl k (hA.old 4 (by decide)) Y2 (wayC sp kd 1 sum mxr) _ (hY5.kp hW (fun h => h)).blk Try.underlying25 rfl infoY2 ⟨Kp.refl _ _, rfl, fun h => by cases h⟩
    · cases ho
      have h0 : a.tmps.getD 36 undef = _ := hdep 0 (by decide) (by kernel_rfl)
      refine sS_ca rfl rfl Try.func13 (by kernel_rfl) rfl #[.agg (wayC sp kd 1 sum mxr)] (by simp only [List.map_toArray, List.map_cons, List.map_nil]; rw [show a.eval (.tmp 36) = _ from h0]) ?_
      exact (WY.out W).mono fun e w' q => ⟨_, q.1, q.2, rfl, fun h => by cases h⟩
    · cases ho
      refine sS_ld rfl rfl k (hA.old 4 (by decide)) Y2 (wayC sp kd 1 sum mxr) _ (hY5.kp hW (fun h => h)).blk Try.underlying25 rfl infoY2 ⟨Kp.refl _ _, rfl, fun h => by cases h⟩
    · cases ho
      have h0 : a.tmps.getD 38 undef = _ := hdep 2 (by decide) (by kernel_rfl)
      refine sS_ca rfl rfl Try.func13 (by kernel_rfl) rfl #[.agg (wayC sp kd 1 sum mxr)] (by simp only [List.map_toArray, List.map_cons, List.map_nil]; rw [show a.eval (.tmp 38) = _ from h0]) ?_
      exact (WY.out W).mono fun e w' q => ⟨_, q.1, q.2, rfl, fun h => by cases h⟩
    · cases ho
      exact sS_al rfl rfl zY (zeroY _) fun g hg w1 hb hk => ⟨hk, ⟨g, rfl, hb, by have := hW.size; omega⟩, fun _ => ⟨by show _ ≤ g; omega, blk_lt hb⟩⟩
    · cases ho
      exact sS_al rfl rfl zY (zeroY _) fun g hg w1 hb hk => ⟨hk, ⟨g, rfl, hb, by have := hW.size; omega⟩, fun _ => ⟨by show _ ≤ g; omega, blk_lt hb⟩⟩
    · omega
  · intro v w6 hk6 hr hne
    have v1 : v 1 = .agg (wayC sp kd 1 sum mxr) := hr 1 (by decide)
    have v3 : v 3 = .agg (wayC sp kd 1 sum mxr) := hr 3 (by decide)
    have v0 : v 0 = .agg (wayC sp kd 1 sum mxr) := hr 0 (by decide)
    have v2 : v 2 = .agg (wayC sp kd 1 sum mxr) := hr 2 (by decide)
    obtain ⟨ga, v4, hba, hga⟩ := hr 4 (by decide)
    obtain ⟨gb, v5, hbb, hgb⟩ := hr 5 (by decide)
    have hgab : ga ≠ gb := by
      have := hne 4 5 (by decide) (by decide) (by decide) rfl rfl
      rw [v4, v5] at this
      exact this
    clear hr hne
    simp only [putN, d6, v0, v1, v2, v3, v4, v5, Act.put, List.setIfInBounds_toArray, List.set_cons_zero, List.set_cons_succ]

    refine any_1 (i := 6) (by kernel_rfl) rfl rfl (wp_st rfl rfl ga (wayC sp kd 1 sum mxr) zY YT rfl rfl hba infoY rfl (wayC_one _ _ _ _ _) fun w7 h7 k7 => ?_)
    have hbb7 := (k7.block gb (blk_lt hbb) (Ne.symm hgab)).trans hbb
    refine any_1 (i := 7) (by kernel_rfl) rfl rfl (wp_st rfl rfl gb (wayC sp kd 1 sum mxr) zY YT rfl rfl hbb7 infoY rfl (wayC_one _ _ _ _ _) fun w8 h8 k8 => ?_)
    refine wpAny_done (by kernel_rfl) ?_ _
    have hA8 : Bk w8 ga (wayC sp kd 1 sum mxr) YT := (Bk.mk h7).kp k8 hgab
    have hB8 : Bk w8 gb (wayC sp kd 1 sum mxr) YT := Bk.mk h8
    have hwa : w.heap.size ≤ ga := Nat.le_trans K5.size hga
    have hwb : w.heap.size ≤ gb := Nat.le_trans K5.size hgb
    have hR6 := hR5.kpN hk6
    have hR7 := hR6.kp k7 fun i hi (e : i = ga) => hR6.off hba (by decide) (by decide) (e ▸ hi)
    have hR8 := hR7.kp k8 fun i hi (e : i = gb) => hR7.off hbb7 (by decide) (by decide) (e ▸ hi)
    have K8 : KpN w w8 := (((K5.trans hk6).then k7 fun i hi (e : i = ga) => by omega)).then k8 fun i hi (e : i = gb) => by omega
    clear v0 v1 v2 v3 v4 v5 hba hbb hbb7 h7 h8 k7 k8 hR5 hR6 hR7 hY5 hk6 K5
    have fa := blk_frozen hA8.blk 1
    have hB8' : (w8.setCell ⟨ga, 1, none⟩ (.int .i64 2)).heap[gb]? = some (.cells (wayC sp kd 1 sum mxr) YT (0, 0)) := (Below.heap_setCell _ _ _ _ (Ne.symm hgab)).trans hB8.blk
    have fb := blk_frozen hB8' 1
    have cb : (w8.setCell ⟨ga, 1, none⟩ (.int .i64 2)).cell? ⟨gb, 1, none⟩ = some (.int .i64 kd) := blk_cell hB8' 1
    have ca : w8.cell? ⟨ga, 1, none⟩ = some (.int .i64 kd) := hA8.c 1
    go_wp2
    have hA9 : Bk ((w8.setCell ⟨ga, 1, none⟩ (.int .i64 2)).setCell ⟨gb, 1, none⟩ (.int .i64 1)) ga (wayC sp 2 1 sum mxr) YT := ⟨(Below.heap_setCell _ _ _ _ hgab).trans (blk_set hA8.blk 1 (.int .i64 2))⟩
    have hB9 : Bk ((w8.setCell ⟨ga, 1, none⟩ (.int .i64 2)).setCell ⟨gb, 1, none⟩ (.int .i64 1)) gb (wayC sp 1 1 sum mxr) YT := ⟨blk_set ((Below.heap_setCell _ _ _ _ (Ne.symm hgab)).trans hB8.blk) 1 (.int .i64 1)⟩
    have k89 : Kp w8 ((w8.setCell ⟨ga, 1, none⟩ (.int .i64 2)).setCell ⟨gb, 1, none⟩ (.int .i64 1)) (fun i => i = ga ∨ i = gb) := ((Kp.refl w8 (fun i => i = ga ∨ i = gb)).setCell (p := ⟨ga, 1, none⟩) (.inl (.inl rfl)) _).setCell (p := ⟨gb, 1, none⟩) (.inl (.inr rfl)) _
    generalize (w8.setCell ⟨ga, 1, none⟩ (.int .i64 2)).setCell ⟨gb, 1, none⟩ (.int .i64 1) = w9 at hA9 hB9 k89 ⊢
    have HR := Aside0.mk (hR8.kp k89 fun i hi (e : i = ga ∨ i = gb) => by rcases e with e | e; exact hR8.off hA8.blk (by decide) (by decide) (e ▸ hi); exact hR8.off hB8.blk (by decide) (by decide) (e ▸ hi))
    have K9 : KpN w w9 := K8.then k89 fun i hi (e : i = ga ∨ i = gb) => by omega
    clear hA8 hB8 hB8' hR8 k89 K8 fa fb ca cb
    obtain ⟨ra, hra⟩ : ∃ r, walkW (memM xs xs.length) 32768 sp 2 1 sum mxr va = r := ⟨_, rfl⟩
    obtain ⟨rb, hrb⟩ : ∃ r, walkW (memM xs xs.length) 32768 sp 1 1 sum mxr va = r := ⟨_, rfl⟩
    have hab : Aside0 (ra.fault = false → rb = ra) := ⟨fun h => by rw [← hra, ← hrb]; rw [← hra] at h; exact walkW_ok _ _ _ _ (store_load 1 sum mxr) rfl h⟩
    have LA : Aside0 (∀ W, Rm W g B (8 * xs.length) 32768 pg (memM xs xs.length) → Calls Try.prog 12 #[.pointer (some ⟨g, 0, none⟩), .agg (wayC sp 2 1 sum mxr), .int .u64 (va : Int)] W fun e w' => e = .returned (.agg ra.cells) ∧ KpN W w') := ⟨fun W h => by rw [← hra]; exact WK.out 2 1 sum mxr g B _ pg _ W h⟩
    have LB : Aside0 (∀ W, Rm W g B (8 * xs.length) 32768 pg (memM xs xs.length) → Calls Try.prog 12 #[.pointer (some ⟨g, 0, none⟩), .agg (wayC sp 1 1 sum mxr), .int .u64 (va : Int)] W fun e w' => e = .returned (.agg rb.cells) ∧ KpN W w') := ⟨fun W h => by rw [← hrb]; exact WK.out 1 1 sum mxr g B _ pg _ W h⟩
    obtain ⟨rc, hrc⟩ : ∃ r, walkW (memM xs xs.length) 32768 sp 1 0 sum mxr va = r := ⟨_, rfl⟩
    obtain ⟨rd_, hrd⟩ : ∃ r, walkW (memM xs xs.length) 32768 sp 1 1 true mxr va = r := ⟨_, rfl⟩
    have hcd : Aside0 (rc.fault = false → rd_ = rc) := ⟨fun h => by rw [← hrc, ← hrd]; rw [← hrc] at h; exact walkW_ok _ _ _ _ (user_super sum mxr) (bare01 sp 0 1 (.inl rfl) (.inr rfl)) h⟩
    have LC : Aside0 (∀ W, Rm W g B (8 * xs.length) 32768 pg (memM xs xs.length) → Calls Try.prog 12 #[.pointer (some ⟨g, 0, none⟩), .agg (wayC sp 1 0 sum mxr), .int .u64 (va : Int)] W fun e w' => e = .returned (.agg rc.cells) ∧ KpN W w') := ⟨fun W h => by rw [← hrc]; exact WK.out 1 0 sum mxr g B _ pg _ W h⟩
    have LD : Aside0 (∀ W, Rm W g B (8 * xs.length) 32768 pg (memM xs xs.length) → Calls Try.prog 12 #[.pointer (some ⟨g, 0, none⟩), .agg (wayC sp 1 1 true mxr), .int .u64 (va : Int)] W fun e w' => e = .returned (.agg rd_.cells) ∧ KpN W w') := ⟨fun W h => by rw [← hrd]; exact WK.out 1 1 true mxr g B _ pg _ W h⟩
    clear hra hrb hrc hrd
    refine wp_region_slots 10 2 #[true, true, true, true, true, true, true, true, true, true, false, false] d8 (r8 w9 g va (wayC sp 2 1 sum mxr) (wayC sp 1 1 sum mxr) (ra.cells) (rb.cells)) (fun i => decide (8 ≤ i)) (by kernel_rfl) (by kernel_rfl) rfl ?_ ?_ ?_ (fun i v w w' _ => r8_stab i v w w') ?_ ?_
    · intro i o hi ho
      rcases i with _ | _ | _ | _ | _ | _ | _ | _ | _ | _ | i
      all_goals first | (cases ho; rfl) | omega
    · intro i hi
      rcases i with _ | _ | _ | _ | _ | _ | _ | _ | _ | _ | i
      all_goals first | (show (_ : Nat) < 91; decide) | omega
    · intro i j hi hj h
      rcases i with _ | _ | _ | _ | _ | _ | _ | _ | _ | _ | i
      all_goals rcases j with _ | _ | _ | _ | _ | _ | _ | _ | _ | _ | j
      all_goals first | rfl | omega | (exact absurd h (by decide))
    · intro i o hi ho a W hW hA hdep
      rcases i with _ | _ | _ | _ | _ | _ | _ | _ | _ | _ | i
      · cases ho
        exact sS_mv rfl rfl ⟨Kp.refl _ _, hA.old 7 (by decide), fun h => by cases h⟩
      · cases ho
        exact sS_ld rfl rfl ga (hA.old 9 (by decide)) YT (wayC sp 2 1 sum mxr) _ ((hA9).kp hW (fun h => h)).blk Try.underlying40 rfl infoY ⟨Kp.refl _ _, rfl, fun h => by cases h⟩
      · cases ho
        exact sS_mv rfl rfl ⟨Kp.refl _ _, hA.old 2 (by decide), fun h => by cases h⟩
      · cases ho
        have h0 : a.tmps.getD 42 undef = _ := hdep 0 (by decide) (by kernel_rfl)
        have h1 : a.tmps.getD 43 undef = _ := hdep 1 (by decide) (by kernel_rfl)
        have h2 : a.tmps.getD 44 undef = _ := hdep 2 (by decide) (by kernel_rfl)
        refine sS_ca rfl rfl Try.func12 (by kernel_rfl) rfl #[.pointer (some ⟨g, 0, none⟩), .agg (wayC sp 2 1 sum mxr), .int .u64 (va : Int)] (by simp only [List.map_toArray, List.map_cons, List.map_nil]; rw [show a.eval (.tmp 42) = _ from h0, show a.eval (.tmp 43) = _ from h1, show a.eval (.tmp 44) = _ from h2]) ?_
        exact (LA.out W (HR.out.kpN hW)).mono fun e w' q => ⟨_, q.1, q.2, rfl, fun h => by cases h⟩
      · cases ho
        exact sS_mv rfl rfl ⟨Kp.refl _ _, hA.old 7 (by decide), fun h => by cases h⟩
      · cases ho
        exact sS_ld rfl rfl gb (hA.old 10 (by decide)) YT (wayC sp 1 1 sum mxr) _ ((hB9).kp hW (fun h => h)).blk Try.underlying40 rfl infoY ⟨Kp.refl _ _, rfl, fun h => by cases h⟩
      · cases ho
        exact sS_mv rfl rfl ⟨Kp.refl _ _, hA.old 2 (by decide), fun h => by cases h⟩
      · cases ho
        have h0 : a.tmps.getD 46 undef = _ := hdep 4 (by decide) (by kernel_rfl)
        have h1 : a.tmps.getD 47 undef = _ := hdep 5 (by decide) (by kernel_rfl)
        have h2 : a.tmps.getD 48 undef = _ := hdep 6 (by decide) (by kernel_rfl)
        refine sS_ca rfl rfl Try.func12 (by kernel_rfl) rfl #[.pointer (some ⟨g, 0, none⟩), .agg (wayC sp 1 1 sum mxr), .int .u64 (va : Int)] (by simp only [List.map_toArray, List.map_cons, List.map_nil]; rw [show a.eval (.tmp 46) = _ from h0, show a.eval (.tmp 47) = _ from h1, show a.eval (.tmp 48) = _ from h2]) ?_
        exact (LB.out W (HR.out.kpN hW)).mono fun e w' q => ⟨_, q.1, q.2, rfl, fun h => by cases h⟩
      · cases ho
        exact sS_al rfl rfl (RS.mk 0 false false 0).cells (zeroS _) fun g hg w1 hb hk => ⟨hk, ⟨g, rfl, hb, by have := hW.size; omega⟩, fun _ => ⟨by show _ ≤ g; omega, blk_lt hb⟩⟩
      · cases ho
        exact sS_al rfl rfl (RS.mk 0 false false 0).cells (zeroS _) fun g hg w1 hb hk => ⟨hk, ⟨g, rfl, hb, by have := hW.size; omega⟩, fun _ => ⟨by show _ ≤ g; omega, blk_lt hb⟩⟩
      · omega
    · intro v wx hkx hr hne
      have v0 := hr 0 (by decide)
      have v1 := hr 1 (by decide)
      have v2 := hr 2 (by decide)
      have v3 := hr 3 (by decide)
      have v4 := hr 4 (by decide)
      have v5 := hr 5 (by decide)
      have v6 := hr 6 (by decide)
      have v7 := hr 7 (by decide)
      obtain ⟨gc, v8, hbc, hgc⟩ := hr 8 (by decide)
      obtain ⟨gd, v9, hbd, hgd⟩ := hr 9 (by decide)
      have hgcd : gc ≠ gd := by
        have := hne 8 9 (by decide) (by decide) (by decide) rfl rfl
        rw [v8, v9] at this
        exact this
      clear hr hne
      simp only [r8] at v0 v1 v2 v3 v4 v5 v6 v7
      simp only [putN, d8, v0, v1, v2, v3, v4, v5, v6, v7, v8, v9, Act.put, List.setIfInBounds_toArray, List.set_cons_zero, List.set_cons_succ]
      clear v0 v1 v2 v3 v4 v5 v6 v7 v8 v9
      refine any_1 (i := 10) (by kernel_rfl) rfl rfl (wp_st rfl rfl gc ra.cells _ ST rfl rfl hbc infoS rfl (RS.one _) fun w10 h10 k10 => ?_)
      have hbd2 := (k10.block gd (blk_lt hbd) (Ne.symm hgcd)).trans hbd
      refine any_1 (i := 11) (by kernel_rfl) rfl rfl (wp_st rfl rfl gd rb.cells _ ST rfl rfl hbd2 infoS rfl (RS.one _) fun w11 h11 k11 => ?_)
      refine wpAny_done (by kernel_rfl) ?_ _
      have hC := (Bk.mk h10).kp k11 hgcd
      have hD := Bk.mk h11
      have hwc : w.heap.size ≤ gc := Nat.le_trans K9.size hgc
      have hwd : w.heap.size ≤ gd := Nat.le_trans K9.size hgd
      have Rx := HR.out.kpN hkx
      have Rx1 := Rx.kp k10 fun i hi (e : i = gc) => Rx.off hbc (by decide) (by decide) (e ▸ hi)
      have Rx2 := Aside0.mk (Rx1.kp k11 fun i hi (e : i = gd) => Rx1.off hbd2 (by decide) (by decide) (e ▸ hi))
      have hcb : gb ≠ gc := by have := blk_lt hB9.blk; omega
      have hdb : gb ≠ gd := by have := blk_lt hB9.blk; omega
      have hBx := ((hB9.kp hkx (fun h => h)).kp k10 hcb).kp k11 hdb
      have Kx : KpN w w11 := (((K9.trans hkx).then k10 fun i hi (e : i = gc) => by omega)).then k11 fun i hi (e : i = gd) => by omega
      clear hbc hbd hbd2 h10 h11 k10 k11 Rx Rx1 hcb hdb hA9 hB9 K9 HR hkx hgc hgd
      have c0 : w11.cell? ⟨gc, 0, none⟩ = some (.int .u64 (ra.addr : Int)) := hC.c 0
      have c1_ : w11.cell? ⟨gc, 1, none⟩ = some (.bool ra.fault) := hC.c 1
      have e0 : w11.cell? ⟨gd, 0, none⟩ = some (.int .u64 (rb.addr : Int)) := hD.c 0
      have e1 : w11.cell? ⟨gd, 1, none⟩ = some (.bool rb.fault) := hD.c 1
      have tt : ra.fault = true ∨ (ra.fault = false ∧ rb = ra) := by
        cases hf : ra.fault
        · exact .inr ⟨rfl, hab.out hf⟩
        · exact .inl rfl
      clear hab LA LB
      have step : ∀ (b1 : Bool) (n1 n2 : Int) (b2 : Bool), True := fun _ _ _ _ => trivial
      clear step
      rcases tt with tt | ⟨tt, tr⟩
      · rw [tt] at c1_
        go_wp2_with (fail)
        clear c0 c1_ e0 e1 tt hC hD
        refine pair_out (by kernel_rfl) rfl rfl rfl rfl rfl rfl (by kernel_rfl) (by kernel_rfl) (by kernel_rfl) (by kernel_rfl) (by kernel_rfl) (by kernel_rfl) (by kernel_rfl) (by kernel_rfl) (by kernel_rfl) (by kernel_rfl) (by kernel_rfl) rfl rfl rfl rfl rfl rfl rfl rfl Try.underlying40 rfl gb (wayC sp 1 1 sum mxr) zY zeroY infoY rfl (wayC_one _ _ _ _ _) hBx.blk ⟨fun _ _ _ h => h, fun _ _ _ h => h⟩ rfl rfl (fun _ _ => rfl) (fun _ _ => rfl) (fun _ _ => rfl) (fun _ _ => rfl) (fun _ _ => rfl) ?_
        intro ge gf w12 hgef hge hgf he hf k12
        simp only [Act.put, List.setIfInBounds_toArray, List.set_cons_zero, List.set_cons_succ]
        have hwe : w.heap.size ≤ ge := Nat.le_trans Kx.size hge
        have hwf : w.heap.size ≤ gf := Nat.le_trans Kx.size hgf
        have K12 := Kx.trans k12
        have R12 := Rx2.out.kpN k12
        have hF1 : (w12.setCell ⟨ge, 2, none⟩ (.int .i64 0)).heap[gf]? = some (.cells (wayC sp 1 1 sum mxr) YT (0, 0)) := (Below.heap_setCell _ _ _ _ (Ne.symm hgef)).trans hf
        have hF2 := blk_set hF1 2 (.int .i64 1)
        have u1 : w12.cell? ⟨ge, 2, none⟩ = some (.int .i64 1) := blk_cell he 2
        have u2 := blk_frozen he 2
        have u3 : (w12.setCell ⟨ge, 2, none⟩ (.int .i64 0)).cell? ⟨gf, 2, none⟩ = some (.int .i64 1) := blk_cell hF1 2
        have u4 := blk_frozen hF1 2
        have u5 : ((w12.setCell ⟨ge, 2, none⟩ (.int .i64 0)).setCell ⟨gf, 2, none⟩ (.int .i64 1)).cell? ⟨gf, 3, none⟩ = some (.bool sum) := blk_cell hF2 3
        have u6 := blk_frozen hF2 3
        have hF3 : Bk (((w12.setCell ⟨ge, 2, none⟩ (.int .i64 0)).setCell ⟨gf, 2, none⟩ (.int .i64 1)).setCell ⟨gf, 3, none⟩ (.bool true)) gf (wayC sp 1 1 true mxr) YT := ⟨blk_set hF2 3 (.bool true)⟩
        have hE3 : Bk (((w12.setCell ⟨ge, 2, none⟩ (.int .i64 0)).setCell ⟨gf, 2, none⟩ (.int .i64 1)).setCell ⟨gf, 3, none⟩ (.bool true)) ge (wayC sp 1 0 sum mxr) YT := ⟨(Below.heap_setCell _ _ _ _ hgef).trans ((Below.heap_setCell _ _ _ _ hgef).trans (blk_set he 2 (.int .i64 0)))⟩
        have k13 : Kp w12 (((w12.setCell ⟨ge, 2, none⟩ (.int .i64 0)).setCell ⟨gf, 2, none⟩ (.int .i64 1)).setCell ⟨gf, 3, none⟩ (.bool true)) (fun i => i = ge ∨ i = gf) := (((Kp.refl w12 (fun i => i = ge ∨ i = gf)).setCell (p := ⟨ge, 2, none⟩) (.inl (.inl rfl)) _).setCell (p := ⟨gf, 2, none⟩) (.inl (.inr rfl)) _).setCell (p := ⟨gf, 3, none⟩) (.inl (.inr rfl)) _
        clear hF2
        go_wp2
        generalize ((w12.setCell ⟨ge, 2, none⟩ (.int .i64 0)).setCell ⟨gf, 2, none⟩ (.int .i64 1)).setCell ⟨gf, 3, none⟩ (.bool true) = w13 at hE3 hF3 k13 ⊢
        have HR := Aside0.mk (R12.kp k13 fun i hi (e : i = ge ∨ i = gf) => by rcases e with e | e; exact R12.off he (by decide) (by decide) (e ▸ hi); exact R12.off hf (by decide) (by decide) (e ▸ hi))
        have K13 : KpN w w13 := K12.then k13 fun i hi (e : i = ge ∨ i = gf) => by omega
        clear he hf k12 K12 R12 hF1 u1 u2 u3 u4 u5 u6 k13 Rx2 hBx Kx hge hgf
        refine wp_region_slots 10 2 #[true, true, true, true, true, true, true, true, true, true, false, false] d13 (r8 w13 g va (wayC sp 1 0 sum mxr) (wayC sp 1 1 true mxr) (rc.cells) (rd_.cells)) (fun i => decide (8 ≤ i)) (by kernel_rfl) (by kernel_rfl) rfl ?_ ?_ ?_ (fun i v w w' _ => r8_stab i v w w') ?_ ?_
        · intro i o hi ho
          rcases i with _ | _ | _ | _ | _ | _ | _ | _ | _ | _ | i
          all_goals first | (cases ho; rfl) | omega
        · intro i hi
          rcases i with _ | _ | _ | _ | _ | _ | _ | _ | _ | _ | i
          all_goals first | (show (_ : Nat) < 91; decide) | omega
        · intro i j hi hj h
          rcases i with _ | _ | _ | _ | _ | _ | _ | _ | _ | _ | i
          all_goals rcases j with _ | _ | _ | _ | _ | _ | _ | _ | _ | _ | j
          all_goals first | rfl | omega | (exact absurd h (by decide))
        · intro i o hi ho a W hW hA hdep
          rcases i with _ | _ | _ | _ | _ | _ | _ | _ | _ | _ | i
          · cases ho
            exact sS_mv rfl rfl ⟨Kp.refl _ _, hA.old 7 (by decide), fun h => by cases h⟩
          · cases ho
            exact sS_ld rfl rfl ge (hA.old 13 (by decide)) YT (wayC sp 1 0 sum mxr) _ ((hE3).kp hW (fun h => h)).blk Try.underlying40 rfl infoY ⟨Kp.refl _ _, rfl, fun h => by cases h⟩
          · cases ho
            exact sS_mv rfl rfl ⟨Kp.refl _ _, hA.old 2 (by decide), fun h => by cases h⟩
          · cases ho
            have h0 : a.tmps.getD 69 undef = _ := hdep 0 (by decide) (by kernel_rfl)
            have h1 : a.tmps.getD 70 undef = _ := hdep 1 (by decide) (by kernel_rfl)
            have h2 : a.tmps.getD 71 undef = _ := hdep 2 (by decide) (by kernel_rfl)
            refine sS_ca rfl rfl Try.func12 (by kernel_rfl) rfl #[.pointer (some ⟨g, 0, none⟩), .agg (wayC sp 1 0 sum mxr), .int .u64 (va : Int)] (by simp only [List.map_toArray, List.map_cons, List.map_nil]; rw [show a.eval (.tmp 69) = _ from h0, show a.eval (.tmp 70) = _ from h1, show a.eval (.tmp 71) = _ from h2]) ?_
            exact (LC.out W (HR.out.kpN hW)).mono fun e w' q => ⟨_, q.1, q.2, rfl, fun h => by cases h⟩
          · cases ho
            exact sS_mv rfl rfl ⟨Kp.refl _ _, hA.old 7 (by decide), fun h => by cases h⟩
          · cases ho
            exact sS_ld rfl rfl gf (hA.old 14 (by decide)) YT (wayC sp 1 1 true mxr) _ ((hF3).kp hW (fun h => h)).blk Try.underlying40 rfl infoY ⟨Kp.refl _ _, rfl, fun h => by cases h⟩
          · cases ho
            exact sS_mv rfl rfl ⟨Kp.refl _ _, hA.old 2 (by decide), fun h => by cases h⟩
          · cases ho
            have h0 : a.tmps.getD 73 undef = _ := hdep 4 (by decide) (by kernel_rfl)
            have h1 : a.tmps.getD 74 undef = _ := hdep 5 (by decide) (by kernel_rfl)
            have h2 : a.tmps.getD 75 undef = _ := hdep 6 (by decide) (by kernel_rfl)
            refine sS_ca rfl rfl Try.func12 (by kernel_rfl) rfl #[.pointer (some ⟨g, 0, none⟩), .agg (wayC sp 1 1 true mxr), .int .u64 (va : Int)] (by simp only [List.map_toArray, List.map_cons, List.map_nil]; rw [show a.eval (.tmp 73) = _ from h0, show a.eval (.tmp 74) = _ from h1, show a.eval (.tmp 75) = _ from h2]) ?_
            exact (LD.out W (HR.out.kpN hW)).mono fun e w' q => ⟨_, q.1, q.2, rfl, fun h => by cases h⟩
          · cases ho
            exact sS_al rfl rfl (RS.mk 0 false false 0).cells (zeroS _) fun g hg w1 hb hk => ⟨hk, ⟨g, rfl, hb, by have := hW.size; omega⟩, fun _ => ⟨by show _ ≤ g; omega, blk_lt hb⟩⟩
          · cases ho
            exact sS_al rfl rfl (RS.mk 0 false false 0).cells (zeroS _) fun g hg w1 hb hk => ⟨hk, ⟨g, rfl, hb, by have := hW.size; omega⟩, fun _ => ⟨by show _ ≤ g; omega, blk_lt hb⟩⟩
          · omega
        · intro v wy hky hr hne
          have v0 := hr 0 (by decide)
          have v1 := hr 1 (by decide)
          have v2 := hr 2 (by decide)
          have v3 := hr 3 (by decide)
          have v4 := hr 4 (by decide)
          have v5 := hr 5 (by decide)
          have v6 := hr 6 (by decide)
          have v7 := hr 7 (by decide)
          obtain ⟨gh, v8, hbc, hgc⟩ := hr 8 (by decide)
          obtain ⟨gi, v9, hbd, hgd⟩ := hr 9 (by decide)
          have hghi : gh ≠ gi := by
            have := hne 8 9 (by decide) (by decide) (by decide) rfl rfl
            rw [v8, v9] at this
            exact this
          clear hr hne
          simp only [r8] at v0 v1 v2 v3 v4 v5 v6 v7
          simp only [putN, d13, v0, v1, v2, v3, v4, v5, v6, v7, v8, v9, Act.put, List.setIfInBounds_toArray, List.set_cons_zero, List.set_cons_succ]
          clear v0 v1 v2 v3 v4 v5 v6 v7 v8 v9
          refine any_1 (i := 10) (by kernel_rfl) rfl rfl (wp_st rfl rfl gh rc.cells _ ST rfl rfl hbc infoS rfl (RS.one _) fun w14 h14 k14 => ?_)
          have hbd2 := (k14.block gi (blk_lt hbd) (Ne.symm hghi)).trans hbd
          refine any_1 (i := 11) (by kernel_rfl) rfl rfl (wp_st rfl rfl gi rd_.cells _ ST rfl rfl hbd2 infoS rfl (RS.one _) fun w15 h15 k15 => ?_)
          refine wpAny_done (by kernel_rfl) ?_ _
          have hC := (Bk.mk h14).kp k15 hghi
          have hD := Bk.mk h15
          have hwg : w.heap.size ≤ gh := Nat.le_trans K13.size hgc
          have hwi : w.heap.size ≤ gi := Nat.le_trans K13.size hgd
          have Ky : KpN w w15 := (((K13.trans hky).then k14 fun i hi (e : i = gh) => by omega)).then k15 fun i hi (e : i = gi) => by omega
          clear hbc hbd hbd2 h14 h15 k14 k15 hE3 hF3 K13 HR hky hgc hgd
          have c0 : w15.cell? ⟨gh, 0, none⟩ = some (.int .u64 (rc.addr : Int)) := hC.c 0
          have c1_ : w15.cell? ⟨gh, 1, none⟩ = some (.bool rc.fault) := hC.c 1
          have e0 : w15.cell? ⟨gi, 0, none⟩ = some (.int .u64 (rd_.addr : Int)) := hD.c 0
          have e1 : w15.cell? ⟨gi, 1, none⟩ = some (.bool rd_.fault) := hD.c 1
          have tt : rc.fault = true ∨ (rc.fault = false ∧ rd_ = rc) := by
            cases hf : rc.fault
            · exact .inr ⟨rfl, hcd.out hf⟩
            · exact .inl rfl
          clear hcd LC LD
          rcases tt with tt | ⟨tt, tr⟩
          · rw [tt] at c1_
            go_wp2
            go_ret
            exact ⟨rfl, Ky.below (fun _ _ h => h.elim) (Nat.le_refl _)⟩
          · subst tr
            rw [tt] at c1_ e1
            go_wp2
            go_ret
            exact ⟨rfl, Ky.below (fun _ _ h => h.elim) (Nat.le_refl _)⟩
      · subst tr
        rw [tt] at c1_ e1
        go_wp2_with (fail)
        clear c0 c1_ e0 e1 tt hC hD
        refine pair_out (by kernel_rfl) rfl rfl rfl rfl rfl rfl (by kernel_rfl) (by kernel_rfl) (by kernel_rfl) (by kernel_rfl) (by kernel_rfl) (by kernel_rfl) (by kernel_rfl) (by kernel_rfl) (by kernel_rfl) (by kernel_rfl) (by kernel_rfl) rfl rfl rfl rfl rfl rfl rfl rfl Try.underlying40 rfl gb (wayC sp 1 1 sum mxr) zY zeroY infoY rfl (wayC_one _ _ _ _ _) hBx.blk ⟨fun _ _ _ h => h, fun _ _ _ h => h⟩ rfl rfl (fun _ _ => rfl) (fun _ _ => rfl) (fun _ _ => rfl) (fun _ _ => rfl) (fun _ _ => rfl) ?_
        intro ge gf w12 hgef hge hgf he hf k12
        simp only [Act.put, List.setIfInBounds_toArray, List.set_cons_zero, List.set_cons_succ]
        have hwe : w.heap.size ≤ ge := Nat.le_trans Kx.size hge
        have hwf : w.heap.size ≤ gf := Nat.le_trans Kx.size hgf
        have K12 := Kx.trans k12
        have R12 := Rx2.out.kpN k12
        have hF1 : (w12.setCell ⟨ge, 2, none⟩ (.int .i64 0)).heap[gf]? = some (.cells (wayC sp 1 1 sum mxr) YT (0, 0)) := (Below.heap_setCell _ _ _ _ (Ne.symm hgef)).trans hf
        have hF2 := blk_set hF1 2 (.int .i64 1)
        have u1 : w12.cell? ⟨ge, 2, none⟩ = some (.int .i64 1) := blk_cell he 2
        have u2 := blk_frozen he 2
        have u3 : (w12.setCell ⟨ge, 2, none⟩ (.int .i64 0)).cell? ⟨gf, 2, none⟩ = some (.int .i64 1) := blk_cell hF1 2
        have u4 := blk_frozen hF1 2
        have u5 : ((w12.setCell ⟨ge, 2, none⟩ (.int .i64 0)).setCell ⟨gf, 2, none⟩ (.int .i64 1)).cell? ⟨gf, 3, none⟩ = some (.bool sum) := blk_cell hF2 3
        have u6 := blk_frozen hF2 3
        have hF3 : Bk (((w12.setCell ⟨ge, 2, none⟩ (.int .i64 0)).setCell ⟨gf, 2, none⟩ (.int .i64 1)).setCell ⟨gf, 3, none⟩ (.bool true)) gf (wayC sp 1 1 true mxr) YT := ⟨blk_set hF2 3 (.bool true)⟩
        have hE3 : Bk (((w12.setCell ⟨ge, 2, none⟩ (.int .i64 0)).setCell ⟨gf, 2, none⟩ (.int .i64 1)).setCell ⟨gf, 3, none⟩ (.bool true)) ge (wayC sp 1 0 sum mxr) YT := ⟨(Below.heap_setCell _ _ _ _ hgef).trans ((Below.heap_setCell _ _ _ _ hgef).trans (blk_set he 2 (.int .i64 0)))⟩
        have k13 : Kp w12 (((w12.setCell ⟨ge, 2, none⟩ (.int .i64 0)).setCell ⟨gf, 2, none⟩ (.int .i64 1)).setCell ⟨gf, 3, none⟩ (.bool true)) (fun i => i = ge ∨ i = gf) := (((Kp.refl w12 (fun i => i = ge ∨ i = gf)).setCell (p := ⟨ge, 2, none⟩) (.inl (.inl rfl)) _).setCell (p := ⟨gf, 2, none⟩) (.inl (.inr rfl)) _).setCell (p := ⟨gf, 3, none⟩) (.inl (.inr rfl)) _
        clear hF2
        go_wp2
        generalize ((w12.setCell ⟨ge, 2, none⟩ (.int .i64 0)).setCell ⟨gf, 2, none⟩ (.int .i64 1)).setCell ⟨gf, 3, none⟩ (.bool true) = w13 at hE3 hF3 k13 ⊢
        have HR := Aside0.mk (R12.kp k13 fun i hi (e : i = ge ∨ i = gf) => by rcases e with e | e; exact R12.off he (by decide) (by decide) (e ▸ hi); exact R12.off hf (by decide) (by decide) (e ▸ hi))
        have K13 : KpN w w13 := K12.then k13 fun i hi (e : i = ge ∨ i = gf) => by omega
        clear he hf k12 K12 R12 hF1 u1 u2 u3 u4 u5 u6 k13 Rx2 hBx Kx hge hgf
        refine wp_region_slots 10 2 #[true, true, true, true, true, true, true, true, true, true, false, false] d13 (r8 w13 g va (wayC sp 1 0 sum mxr) (wayC sp 1 1 true mxr) (rc.cells) (rd_.cells)) (fun i => decide (8 ≤ i)) (by kernel_rfl) (by kernel_rfl) rfl ?_ ?_ ?_ (fun i v w w' _ => r8_stab i v w w') ?_ ?_
        · intro i o hi ho
          rcases i with _ | _ | _ | _ | _ | _ | _ | _ | _ | _ | i
          all_goals first | (cases ho; rfl) | omega
        · intro i hi
          rcases i with _ | _ | _ | _ | _ | _ | _ | _ | _ | _ | i
          all_goals first | (show (_ : Nat) < 91; decide) | omega
        · intro i j hi hj h
          rcases i with _ | _ | _ | _ | _ | _ | _ | _ | _ | _ | i
          all_goals rcases j with _ | _ | _ | _ | _ | _ | _ | _ | _ | _ | j
          all_goals first | rfl | omega | (exact absurd h (by decide))
        · intro i o hi ho a W hW hA hdep
          rcases i with _ | _ | _ | _ | _ | _ | _ | _ | _ | _ | i
          · cases ho
            exact sS_mv rfl rfl ⟨Kp.refl _ _, hA.old 7 (by decide), fun h => by cases h⟩
          · cases ho
            exact sS_ld rfl rfl ge (hA.old 13 (by decide)) YT (wayC sp 1 0 sum mxr) _ ((hE3).kp hW (fun h => h)).blk Try.underlying40 rfl infoY ⟨Kp.refl _ _, rfl, fun h => by cases h⟩
          · cases ho
            exact sS_mv rfl rfl ⟨Kp.refl _ _, hA.old 2 (by decide), fun h => by cases h⟩
          · cases ho
            have h0 : a.tmps.getD 69 undef = _ := hdep 0 (by decide) (by kernel_rfl)
            have h1 : a.tmps.getD 70 undef = _ := hdep 1 (by decide) (by kernel_rfl)
            have h2 : a.tmps.getD 71 undef = _ := hdep 2 (by decide) (by kernel_rfl)
            refine sS_ca rfl rfl Try.func12 (by kernel_rfl) rfl #[.pointer (some ⟨g, 0, none⟩), .agg (wayC sp 1 0 sum mxr), .int .u64 (va : Int)] (by simp only [List.map_toArray, List.map_cons, List.map_nil]; rw [show a.eval (.tmp 69) = _ from h0, show a.eval (.tmp 70) = _ from h1, show a.eval (.tmp 71) = _ from h2]) ?_
            exact (LC.out W (HR.out.kpN hW)).mono fun e w' q => ⟨_, q.1, q.2, rfl, fun h => by cases h⟩
          · cases ho
            exact sS_mv rfl rfl ⟨Kp.refl _ _, hA.old 7 (by decide), fun h => by cases h⟩
          · cases ho
            exact sS_ld rfl rfl gf (hA.old 14 (by decide)) YT (wayC sp 1 1 true mxr) _ ((hF3).kp hW (fun h => h)).blk Try.underlying40 rfl infoY ⟨Kp.refl _ _, rfl, fun h => by cases h⟩
          · cases ho
            exact sS_mv rfl rfl ⟨Kp.refl _ _, hA.old 2 (by decide), fun h => by cases h⟩
          · cases ho
            have h0 : a.tmps.getD 73 undef = _ := hdep 4 (by decide) (by kernel_rfl)
            have h1 : a.tmps.getD 74 undef = _ := hdep 5 (by decide) (by kernel_rfl)
            have h2 : a.tmps.getD 75 undef = _ := hdep 6 (by decide) (by kernel_rfl)
            refine sS_ca rfl rfl Try.func12 (by kernel_rfl) rfl #[.pointer (some ⟨g, 0, none⟩), .agg (wayC sp 1 1 true mxr), .int .u64 (va : Int)] (by simp only [List.map_toArray, List.map_cons, List.map_nil]; rw [show a.eval (.tmp 73) = _ from h0, show a.eval (.tmp 74) = _ from h1, show a.eval (.tmp 75) = _ from h2]) ?_
            exact (LD.out W (HR.out.kpN hW)).mono fun e w' q => ⟨_, q.1, q.2, rfl, fun h => by cases h⟩
          · cases ho
            exact sS_al rfl rfl (RS.mk 0 false false 0).cells (zeroS _) fun g hg w1 hb hk => ⟨hk, ⟨g, rfl, hb, by have := hW.size; omega⟩, fun _ => ⟨by show _ ≤ g; omega, blk_lt hb⟩⟩
          · cases ho
            exact sS_al rfl rfl (RS.mk 0 false false 0).cells (zeroS _) fun g hg w1 hb hk => ⟨hk, ⟨g, rfl, hb, by have := hW.size; omega⟩, fun _ => ⟨by show _ ≤ g; omega, blk_lt hb⟩⟩
          · omega
        · intro v wy hky hr hne
          have v0 := hr 0 (by decide)
          have v1 := hr 1 (by decide)
          have v2 := hr 2 (by decide)
          have v3 := hr 3 (by decide)
          have v4 := hr 4 (by decide)
          have v5 := hr 5 (by decide)
          have v6 := hr 6 (by decide)
          have v7 := hr 7 (by decide)
          obtain ⟨gh, v8, hbc, hgc⟩ := hr 8 (by decide)
          obtain ⟨gi, v9, hbd, hgd⟩ := hr 9 (by decide)
          have hghi : gh ≠ gi := by
            have := hne 8 9 (by decide) (by decide) (by decide) rfl rfl
            rw [v8, v9] at this
            exact this
          clear hr hne
          simp only [r8] at v0 v1 v2 v3 v4 v5 v6 v7
          simp only [putN, d13, v0, v1, v2, v3, v4, v5, v6, v7, v8, v9, Act.put, List.setIfInBounds_toArray, List.set_cons_zero, List.set_cons_succ]
          clear v0 v1 v2 v3 v4 v5 v6 v7 v8 v9
          refine any_1 (i := 10) (by kernel_rfl) rfl rfl (wp_st rfl rfl gh rc.cells _ ST rfl rfl hbc infoS rfl (RS.one _) fun w14 h14 k14 => ?_)
          have hbd2 := (k14.block gi (blk_lt hbd) (Ne.symm hghi)).trans hbd
          refine any_1 (i := 11) (by kernel_rfl) rfl rfl (wp_st rfl rfl gi rd_.cells _ ST rfl rfl hbd2 infoS rfl (RS.one _) fun w15 h15 k15 => ?_)
          refine wpAny_done (by kernel_rfl) ?_ _
          have hC := (Bk.mk h14).kp k15 hghi
          have hD := Bk.mk h15
          have hwg : w.heap.size ≤ gh := Nat.le_trans K13.size hgc
          have hwi : w.heap.size ≤ gi := Nat.le_trans K13.size hgd
          have Ky : KpN w w15 := (((K13.trans hky).then k14 fun i hi (e : i = gh) => by omega)).then k15 fun i hi (e : i = gi) => by omega
          clear hbc hbd hbd2 h14 h15 k14 k15 hE3 hF3 K13 HR hky hgc hgd
          have c0 : w15.cell? ⟨gh, 0, none⟩ = some (.int .u64 (rc.addr : Int)) := hC.c 0
          have c1_ : w15.cell? ⟨gh, 1, none⟩ = some (.bool rc.fault) := hC.c 1
          have e0 : w15.cell? ⟨gi, 0, none⟩ = some (.int .u64 (rd_.addr : Int)) := hD.c 0
          have e1 : w15.cell? ⟨gi, 1, none⟩ = some (.bool rd_.fault) := hD.c 1
          have tt : rc.fault = true ∨ (rc.fault = false ∧ rd_ = rc) := by
            cases hf : rc.fault
            · exact .inr ⟨rfl, hcd.out hf⟩
            · exact .inl rfl
          clear hcd LC LD
          rcases tt with tt | ⟨tt, tr⟩
          · rw [tt] at c1_
            go_wp2
            go_ret
            exact ⟨rfl, Ky.below (fun _ _ h => h.elim) (Nat.le_refl _)⟩
          · subst tr
            rw [tt] at c1_ e1
            go_wp2
            go_ret
            exact ⟨rfl, Ky.below (fun _ _ h => h.elim) (Nat.le_refl _)⟩
end Go.Proofs.Ytlhdildnekllhaa.H
