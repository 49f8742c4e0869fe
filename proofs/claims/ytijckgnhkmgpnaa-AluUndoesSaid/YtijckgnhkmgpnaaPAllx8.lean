-- Laid by this seat's own program (wip/tools/pp.sh, a turned copy of the kit's print). Lean checks it.
import Derived.Test.YtijckgnhkmgpnaaPAllx0
import Derived.Test.YtijckgnhkmgpnaaPAllx2
import Derived.Test.YtijckgnhkmgpnaaPAllx3
import Derived.Test.YtijckgnhkmgpnaaPAllx4
import Derived.Test.YtijckgnhkmgpnaaPAllx7
namespace Go.Proofs.Ytijckgnhkmgpnaa.PAll
open Go.RowKit Go.Proofs.YtijckgnhkmgpnaaW.PrintWords Go.Proofs.YtijckgnhkmgpnaaW.PrintLast Go.Proofs.YtijckgnhkmgpnaaW.PrintMore
attribute [local go_sem] max2_int min2_int max_two min_two max_three min_three max_four min_four   -- for this text's walks alone
set_option linter.unusedVariables false
set_option linter.unusedSimpArgs false

/-! ### vireolaw05_AluTakes: function 4 -/
def vireolaw05_AluTakes.f (k : Nat) (a0 : Int) (a1 : Int) (a2 : Int) : Option (Bool) := (vireolaw05_awake.f k).bind fun t221 => (if t221 = true then ((alu_Taken.f a0 a1 a2).bind fun t222 => ((vireoref05_Taken.f k a0 a1 a2).bind fun t223 => (some (t222 == t223)))) else (some false))
theorem vireolaw05_AluTakes.mono : ∀ a0 a1 a2 k, LeO (vireolaw05_AluTakes.f k a0 a1 a2) (vireolaw05_AluTakes.f (k + 1) a0 a1 a2) := by
  intro a0 a1 a2 k
  unfold vireolaw05_AluTakes.f
  repeat' first
      | (with_reducible exact vireolaw05_awake.mono _)
      | (with_reducible exact vireoref05_Taken.mono _ _ _ _)
      | (with_reducible exact LeO.refl _)
      | (with_reducible exact LeO.none _)
      | (with_reducible refine LeO.ite ?_ ?_)
      | (with_reducible refine LeO.bind ?_ (fun _ => ?_))
      | exact vireolaw05_awake.mono _
      | exact vireoref05_Taken.mono _ _ _ _
      | exact LeO.none _
      | refine LeO.ite ?_ ?_
      | refine LeO.bind ?_ (fun _ => ?_)
set_option maxHeartbeats 8000000 in
set_option maxRecDepth 100000 in
theorem vireolaw05_AluTakes.calls (k : Nat) (a0 : Int) (a1 : Int) (a2 : Int) (r : Bool) (w : World) (h : vireolaw05_AluTakes.f k a0 a1 a2 = some r) :
    Calls Try.prog 4 #[.int .i64 a0, .int .u64 a1, .int .u64 a2] w fun e w' => e = .returned (.bool r) ∧ Below w.heap.size w w' := by
  have HB := Aside0.mk (Below.refl w.heap.size w)
  have H : ((vireolaw05_awake.f k).bind fun t221 => (if t221 = true then ((alu_Taken.f a0 a1 a2).bind fun t222 => ((vireoref05_Taken.f k a0 a1 a2).bind fun t223 => (some (t222 == t223)))) else (some false))) = some r := h
  clear h
  replace H := Option.bind_eq_some_iff.mp H
  obtain ⟨t221, A40, H⟩ := H
  replace H : (if t221 = true then ((alu_Taken.f a0 a1 a2).bind fun t222 => ((vireoref05_Taken.f k a0 a1 a2).bind fun t223 => (some (t222 == t223)))) else (some false)) = some r := H
  have A4 := Aside0.mk A40
  clear A40
  by_cases c5 : t221 = true
  · subst c5
    have H1 : ((alu_Taken.f a0 a1 a2).bind fun t222 => ((vireoref05_Taken.f k a0 a1 a2).bind fun t223 => (some (t222 == t223)))) = some r := by rw [if_pos rfl] at H; exact H
    clear H
    have H := H1
    clear H1
    replace H := Option.bind_eq_some_iff.mp H
    obtain ⟨t222, A60, H⟩ := H
    replace H : ((vireoref05_Taken.f k a0 a1 a2).bind fun t223 => (some (t222 == t223))) = some r := H
    have A6 := Aside0.mk A60
    clear A60
    replace H := Option.bind_eq_some_iff.mp H
    obtain ⟨t223, A70, H⟩ := H
    replace H : (some (t222 == t223)) = some r := H
    have A7 := Aside0.mk A70
    clear A70
    obtain rfl := Option.some.inj H
    go_enter Try.func4, Try.ntmps4
    go_wp2_with (first | ((with_reducible refine gate_callee (f := 9) rfl ?_); refine goesL_ (some 7) rfl rfl Try.func9 (by kernel_rfl) rfl #[] rfl (by (try simp only [List.map_toArray, List.map_cons, List.map_nil]); first | done | rfl | (simp only [List.length_drop, List.length_take]; rfl)) ?_; (with_reducible refine (vireolaw05_awake.calls k  true _ A4.out).mono ?_); rintro e w' ⟨rfl, ⟨nd, rfl⟩⟩; refine ⟨_, rfl, ?_⟩) | (go_at_call 12; (with_reducible refine (alu_Taken.calls a0 a1 a2 t222 _ A6.out).mono ?_); rintro e w' ⟨rfl, ⟨nd, rfl⟩⟩) | (go_at_call 13; (with_reducible refine (vireoref05_Taken.calls k a0 a1 a2 t223 _ A7.out).mono ?_); rintro e w8 ⟨rfl, hb⟩; have n0_ := Aside0.mk (below_step (by repeat (first | (with_reducible first | exact HB.out | apply below_alloc | apply pw_below_drewN | apply below_drew1) | exact HB.out)) hb); clear HB; have HB := n0_; clear n0_; (try clear hb); (try clear hb2); (try clear hk); (try clear hi)))
    go_ret
    exact ⟨by first | rfl | (simp [errW_none, errW_some] <;> rfl) | (simp [*, errW_none, errW_some] <;> rfl) | (exfalso; simp_all; done), by repeat (first | (with_reducible first | exact HB.out | apply below_alloc | apply pw_below_drewN | apply below_drew1) | exact HB.out)⟩
  · replace c5 := Bool.eq_false_iff.mpr c5
    subst c5
    have H1 : (some false) = some r := by rw [if_neg (show ¬ (false = true) by decide)] at H; exact H
    clear H
    have H := H1
    clear H1
    obtain rfl := Option.some.inj H
    go_enter Try.func4, Try.ntmps4
    go_wp2_with (first | ((with_reducible refine gate_callee (f := 9) rfl ?_); refine goesL_ (some 7) rfl rfl Try.func9 (by kernel_rfl) rfl #[] rfl (by (try simp only [List.map_toArray, List.map_cons, List.map_nil]); first | done | rfl | (simp only [List.length_drop, List.length_take]; rfl)) ?_; (with_reducible refine (vireolaw05_awake.calls k  false _ A4.out).mono ?_); rintro e w' ⟨rfl, ⟨nd, rfl⟩⟩; refine ⟨_, rfl, ?_⟩))
    go_ret
    exact ⟨by first | rfl | (simp [errW_none, errW_some] <;> rfl) | (simp [*, errW_none, errW_some] <;> rfl) | (exfalso; simp_all; done), by repeat (first | (with_reducible first | exact HB.out | apply below_alloc | apply pw_below_drewN | apply below_drew1) | exact HB.out)⟩

/-- THE ONE PURE STATEMENT of vireolaw05_AluTakes: yours. -/
def vireolaw05_AluTakes.Pure : Prop := ∀ (a0 : Int) (a1 : Int) (a2 : Int), (Lit.int .i64 a0).wf = true → (Lit.int .u64 a1).wf = true → (Lit.int .u64 a2).wf = true → ∃ k, vireolaw05_AluTakes.f k a0 a1 a2 = some true
theorem vireolaw05_AluTakes.walk (P : vireolaw05_AluTakes.Pure) (a0 : Int) (a1 : Int) (a2 : Int) (w : World) (w0 : (Lit.int .i64 a0).wf = true) (w1 : (Lit.int .u64 a1).wf = true) (w2 : (Lit.int .u64 a2).wf = true) :
    Calls Try.prog 4 #[.int .i64 a0, .int .u64 a1, .int .u64 a2] w fun e w' => e = .returned (.bool true) ∧ Below w.heap.size w w' := by
  obtain ⟨k, h⟩ := P a0 a1 a2 w0 w1 w2
  refine (vireolaw05_AluTakes.calls k a0 a1 a2 true w h).mono ?_
  rintro e w' ⟨rfl, hd⟩
  exact ⟨rfl, hd⟩

/-! ### vireoref05_Extend: function 15 -/
def vireoref05_Extend.f (k : Nat) (a0 : Int) (a1 : Int) : Option (Int) := if a0 = 11 then ((vireoref01_Sext.f k a1 8).bind fun t224 => (some t224)) else (if a0 = 12 then ((vireoref01_Sext.f k a1 16).bind fun t225 => (some t225)) else (if a0 = 13 then ((vireoref01_Sext.f k a1 32).bind fun t226 => (some t226)) else (if a0 = 15 then (some (Int.tmod a1 256)) else (if a0 = 16 then (some (Int.tmod a1 65536)) else (if a0 = 17 then (some (Int.tmod a1 4294967296)) else (some a1))))))
theorem vireoref05_Extend.mono : ∀ a0 a1 k, LeO (vireoref05_Extend.f k a0 a1) (vireoref05_Extend.f (k + 1) a0 a1) := by
  intro a0 a1 k
  unfold vireoref05_Extend.f
  repeat' first
      | (with_reducible exact vireoref01_Sext.mono _ _ _)
      | (with_reducible exact LeO.refl _)
      | (with_reducible exact LeO.none _)
      | (with_reducible refine LeO.ite ?_ ?_)
      | (with_reducible refine LeO.bind ?_ (fun _ => ?_))
      | exact vireoref01_Sext.mono _ _ _
      | exact LeO.none _
      | refine LeO.ite ?_ ?_
      | refine LeO.bind ?_ (fun _ => ?_)
set_option maxHeartbeats 8000000 in
set_option maxRecDepth 100000 in
theorem vireoref05_Extend.calls (k : Nat) (a0 : Int) (a1 : Int) (r : Int) (w : World) (h : vireoref05_Extend.f k a0 a1 = some r) :
    Calls Try.prog 15 #[.int .i64 a0, .int .u64 a1] w fun e w' => e = .returned (.int .u64 r) ∧ Below w.heap.size w w' := by
  have HB := Aside0.mk (Below.refl w.heap.size w)
  have H : (if a0 = 11 then ((vireoref01_Sext.f k a1 8).bind fun t224 => (some t224)) else (if a0 = 12 then ((vireoref01_Sext.f k a1 16).bind fun t225 => (some t225)) else (if a0 = 13 then ((vireoref01_Sext.f k a1 32).bind fun t226 => (some t226)) else (if a0 = 15 then (some (Int.tmod a1 256)) else (if a0 = 16 then (some (Int.tmod a1 65536)) else (if a0 = 17 then (some (Int.tmod a1 4294967296)) else (some a1))))))) = some r := h
  clear h
  by_cases c3 : a0 = 11
  · rw [if_pos c3] at H
    have c3b0 : (a0 == 11) = true := beq_iff_eq.mpr c3
    have c3b1 : (a0 != 11) = false := bne_eq_false_iff_eq.mpr c3
    clear c3
    replace H := Option.bind_eq_some_iff.mp H
    obtain ⟨t224, A40, H⟩ := H
    replace H : (some t224) = some r := H
    have A4 := Aside0.mk A40
    clear A40
    obtain rfl := Option.some.inj H
    go_enter Try.func15, Try.ntmps15
    go_wp2_with (first | ((with_reducible refine gate_callee (f := 24) rfl ?_); refine goesL_ (some 9) rfl rfl Try.func24 (by kernel_rfl) rfl #[.int .u64 a1, .int .i64 8] rfl (by (try simp only [List.map_toArray, List.map_cons, List.map_nil]); first | done | rfl | (simp only [List.length_drop, List.length_take]; rfl)) ?_; (with_reducible refine (vireoref01_Sext.calls k a1 8 t224 _ A4.out).mono ?_); rintro e w5 ⟨rfl, hb⟩; refine ⟨_, rfl, ?_⟩; have n0_ := Aside0.mk (below_step (by repeat (first | (with_reducible first | exact HB.out | apply below_alloc | apply pw_below_drewN | apply below_drew1) | exact HB.out)) hb); clear HB; have HB := n0_; clear n0_; (try clear hb); (try clear hb2); (try clear hk); (try clear hi)))
    go_ret
    exact ⟨by first | rfl | (simp [errW_none, errW_some] <;> rfl) | (simp [*, errW_none, errW_some] <;> rfl) | (exfalso; simp_all; done), by repeat (first | (with_reducible first | exact HB.out | apply below_alloc | apply pw_below_drewN | apply below_drew1) | exact HB.out)⟩
  · rw [if_neg c3] at H
    have c3b0 : (a0 == 11) = false := beq_eq_false_iff_ne.mpr c3
    have c3b1 : (a0 != 11) = true := bne_iff_ne.mpr c3
    by_cases c6 : a0 = 12
    · rw [if_pos c6] at H
      have c6b0 : (a0 == 12) = true := beq_iff_eq.mpr c6
      have c6b1 : (a0 != 12) = false := bne_eq_false_iff_eq.mpr c6
      clear c6
      replace H := Option.bind_eq_some_iff.mp H
      obtain ⟨t225, A70, H⟩ := H
      replace H : (some t225) = some r := H
      have A7 := Aside0.mk A70
      clear A70
      obtain rfl := Option.some.inj H
      go_enter Try.func15, Try.ntmps15
      go_wp2_with (first | ((with_reducible refine gate_callee (f := 24) rfl ?_); refine goesL_ (some 13) rfl rfl Try.func24 (by kernel_rfl) rfl #[.int .u64 a1, .int .i64 16] rfl (by (try simp only [List.map_toArray, List.map_cons, List.map_nil]); first | done | rfl | (simp only [List.length_drop, List.length_take]; rfl)) ?_; (with_reducible refine (vireoref01_Sext.calls k a1 16 t225 _ A7.out).mono ?_); rintro e w8 ⟨rfl, hb⟩; refine ⟨_, rfl, ?_⟩; have n0_ := Aside0.mk (below_step (by repeat (first | (with_reducible first | exact HB.out | apply below_alloc | apply pw_below_drewN | apply below_drew1) | exact HB.out)) hb); clear HB; have HB := n0_; clear n0_; (try clear hb); (try clear hb2); (try clear hk); (try clear hi)))
      go_ret
      exact ⟨by first | rfl | (simp [errW_none, errW_some] <;> rfl) | (simp [*, errW_none, errW_some] <;> rfl) | (exfalso; simp_all; done), by repeat (first | (with_reducible first | exact HB.out | apply below_alloc | apply pw_below_drewN | apply below_drew1) | exact HB.out)⟩
    · rw [if_neg c6] at H
      have c6b0 : (a0 == 12) = false := beq_eq_false_iff_ne.mpr c6
      have c6b1 : (a0 != 12) = true := bne_iff_ne.mpr c6
      by_cases c9 : a0 = 13
      · rw [if_pos c9] at H
        have c9b0 : (a0 == 13) = true := beq_iff_eq.mpr c9
        have c9b1 : (a0 != 13) = false := bne_eq_false_iff_eq.mpr c9
        clear c9
        replace H := Option.bind_eq_some_iff.mp H
        obtain ⟨t226, A100, H⟩ := H
        replace H : (some t226) = some r := H
        have A10 := Aside0.mk A100
        clear A100
        obtain rfl := Option.some.inj H
        go_enter Try.func15, Try.ntmps15
        go_wp2_with (first | ((with_reducible refine gate_callee (f := 24) rfl ?_); refine goesL_ (some 17) rfl rfl Try.func24 (by kernel_rfl) rfl #[.int .u64 a1, .int .i64 32] rfl (by (try simp only [List.map_toArray, List.map_cons, List.map_nil]); first | done | rfl | (simp only [List.length_drop, List.length_take]; rfl)) ?_; (with_reducible refine (vireoref01_Sext.calls k a1 32 t226 _ A10.out).mono ?_); rintro e w11 ⟨rfl, hb⟩; refine ⟨_, rfl, ?_⟩; have n0_ := Aside0.mk (below_step (by repeat (first | (with_reducible first | exact HB.out | apply below_alloc | apply pw_below_drewN | apply below_drew1) | exact HB.out)) hb); clear HB; have HB := n0_; clear n0_; (try clear hb); (try clear hb2); (try clear hk); (try clear hi)))
        go_ret
        exact ⟨by first | rfl | (simp [errW_none, errW_some] <;> rfl) | (simp [*, errW_none, errW_some] <;> rfl) | (exfalso; simp_all; done), by repeat (first | (with_reducible first | exact HB.out | apply below_alloc | apply pw_below_drewN | apply below_drew1) | exact HB.out)⟩
      · rw [if_neg c9] at H
        have c9b0 : (a0 == 13) = false := beq_eq_false_iff_ne.mpr c9
        have c9b1 : (a0 != 13) = true := bne_iff_ne.mpr c9
        by_cases c12 : a0 = 15
        · rw [if_pos c12] at H
          have c12b0 : (a0 == 15) = true := beq_iff_eq.mpr c12
          have c12b1 : (a0 != 15) = false := bne_eq_false_iff_eq.mpr c12
          clear c12
          obtain rfl := Option.some.inj H
          go_enter Try.func15, Try.ntmps15
          go_wp2
          go_ret
          exact ⟨by first | rfl | (simp [errW_none, errW_some] <;> rfl) | (simp [*, errW_none, errW_some] <;> rfl) | (exfalso; simp_all; done), by repeat (first | (with_reducible first | exact HB.out | apply below_alloc | apply pw_below_drewN | apply below_drew1) | exact HB.out)⟩
        · rw [if_neg c12] at H
          have c12b0 : (a0 == 15) = false := beq_eq_false_iff_ne.mpr c12
          have c12b1 : (a0 != 15) = true := bne_iff_ne.mpr c12
          by_cases c13 : a0 = 16
          · rw [if_pos c13] at H
            have c13b0 : (a0 == 16) = true := beq_iff_eq.mpr c13
            have c13b1 : (a0 != 16) = false := bne_eq_false_iff_eq.mpr c13
            clear c13
            obtain rfl := Option.some.inj H
            go_enter Try.func15, Try.ntmps15
            go_wp2
            go_ret
            exact ⟨by first | rfl | (simp [errW_none, errW_some] <;> rfl) | (simp [*, errW_none, errW_some] <;> rfl) | (exfalso; simp_all; done), by repeat (first | (with_reducible first | exact HB.out | apply below_alloc | apply pw_below_drewN | apply below_drew1) | exact HB.out)⟩
          · rw [if_neg c13] at H
            have c13b0 : (a0 == 16) = false := beq_eq_false_iff_ne.mpr c13
            have c13b1 : (a0 != 16) = true := bne_iff_ne.mpr c13
            by_cases c14 : a0 = 17
            · rw [if_pos c14] at H
              have c14b0 : (a0 == 17) = true := beq_iff_eq.mpr c14
              have c14b1 : (a0 != 17) = false := bne_eq_false_iff_eq.mpr c14
              clear c14
              obtain rfl := Option.some.inj H
              go_enter Try.func15, Try.ntmps15
              go_wp2
              go_ret
              exact ⟨by first | rfl | (simp [errW_none, errW_some] <;> rfl) | (simp [*, errW_none, errW_some] <;> rfl) | (exfalso; simp_all; done), by repeat (first | (with_reducible first | exact HB.out | apply below_alloc | apply pw_below_drewN | apply below_drew1) | exact HB.out)⟩
            · rw [if_neg c14] at H
              have c14b0 : (a0 == 17) = false := beq_eq_false_iff_ne.mpr c14
              have c14b1 : (a0 != 17) = true := bne_iff_ne.mpr c14
              obtain rfl := Option.some.inj H
              go_enter Try.func15, Try.ntmps15
              go_wp2
              go_ret
              exact ⟨by first | rfl | (simp [errW_none, errW_some] <;> rfl) | (simp [*, errW_none, errW_some] <;> rfl) | (exfalso; simp_all; done), by repeat (first | (with_reducible first | exact HB.out | apply below_alloc | apply pw_below_drewN | apply below_drew1) | exact HB.out)⟩

/-! ### vireolaw05_AluExtends: function 5 -/
def vireolaw05_AluExtends.f (k : Nat) (a0 : Int) (a1 : Int) : Option (Bool) := (vireolaw05_awake.f k).bind fun t227 => (if t227 = true then ((alu_Extend.f k a0 a1).bind fun t228 => ((vireoref05_Extend.f k a0 a1).bind fun t229 => (some (t228 == t229)))) else (some false))
theorem vireolaw05_AluExtends.mono : ∀ a0 a1 k, LeO (vireolaw05_AluExtends.f k a0 a1) (vireolaw05_AluExtends.f (k + 1) a0 a1) := by
  intro a0 a1 k
  unfold vireolaw05_AluExtends.f
  repeat' first
      | (with_reducible exact alu_Extend.mono _ _ _)
      | (with_reducible exact vireolaw05_awake.mono _)
      | (with_reducible exact vireoref05_Extend.mono _ _ _)
      | (with_reducible exact LeO.refl _)
      | (with_reducible exact LeO.none _)
      | (with_reducible refine LeO.ite ?_ ?_)
      | (with_reducible refine LeO.bind ?_ (fun _ => ?_))
      | exact alu_Extend.mono _ _ _
      | exact vireolaw05_awake.mono _
      | exact vireoref05_Extend.mono _ _ _
      | exact LeO.none _
      | refine LeO.ite ?_ ?_
      | refine LeO.bind ?_ (fun _ => ?_)
set_option maxHeartbeats 8000000 in
set_option maxRecDepth 100000 in
theorem vireolaw05_AluExtends.calls (k : Nat) (a0 : Int) (a1 : Int) (r : Bool) (w : World) (h : vireolaw05_AluExtends.f k a0 a1 = some r) :
    Calls Try.prog 5 #[.int .i64 a0, .int .u64 a1] w fun e w' => e = .returned (.bool r) ∧ Below w.heap.size w w' := by
  have HB := Aside0.mk (Below.refl w.heap.size w)
  have H : ((vireolaw05_awake.f k).bind fun t227 => (if t227 = true then ((alu_Extend.f k a0 a1).bind fun t228 => ((vireoref05_Extend.f k a0 a1).bind fun t229 => (some (t228 == t229)))) else (some false))) = some r := h
  clear h
  replace H := Option.bind_eq_some_iff.mp H
  obtain ⟨t227, A30, H⟩ := H
  replace H : (if t227 = true then ((alu_Extend.f k a0 a1).bind fun t228 => ((vireoref05_Extend.f k a0 a1).bind fun t229 => (some (t228 == t229)))) else (some false)) = some r := H
  have A3 := Aside0.mk A30
  clear A30
  by_cases c4 : t227 = true
  · subst c4
    have H1 : ((alu_Extend.f k a0 a1).bind fun t228 => ((vireoref05_Extend.f k a0 a1).bind fun t229 => (some (t228 == t229)))) = some r := by rw [if_pos rfl] at H; exact H
    clear H
    have H := H1
    clear H1
    replace H := Option.bind_eq_some_iff.mp H
    obtain ⟨t228, A50, H⟩ := H
    replace H : ((vireoref05_Extend.f k a0 a1).bind fun t229 => (some (t228 == t229))) = some r := H
    have A5 := Aside0.mk A50
    clear A50
    replace H := Option.bind_eq_some_iff.mp H
    obtain ⟨t229, A60, H⟩ := H
    replace H : (some (t228 == t229)) = some r := H
    have A6 := Aside0.mk A60
    clear A60
    obtain rfl := Option.some.inj H
    go_enter Try.func5, Try.ntmps5
    go_wp2_with (first | ((with_reducible refine gate_callee (f := 9) rfl ?_); refine goesL_ (some 5) rfl rfl Try.func9 (by kernel_rfl) rfl #[] rfl (by (try simp only [List.map_toArray, List.map_cons, List.map_nil]); first | done | rfl | (simp only [List.length_drop, List.length_take]; rfl)) ?_; (with_reducible refine (vireolaw05_awake.calls k  true _ A3.out).mono ?_); rintro e w' ⟨rfl, ⟨nd, rfl⟩⟩; refine ⟨_, rfl, ?_⟩) | (go_at_call 14; (with_reducible refine (alu_Extend.calls k a0 a1 t228 _ A5.out).mono ?_); rintro e w' ⟨rfl, ⟨nd, rfl⟩⟩) | (go_at_call 15; (with_reducible refine (vireoref05_Extend.calls k a0 a1 t229 _ A6.out).mono ?_); rintro e w7 ⟨rfl, hb⟩; have n0_ := Aside0.mk (below_step (by repeat (first | (with_reducible first | exact HB.out | apply below_alloc | apply pw_below_drewN | apply below_drew1) | exact HB.out)) hb); clear HB; have HB := n0_; clear n0_; (try clear hb); (try clear hb2); (try clear hk); (try clear hi)))
    go_ret
    exact ⟨by first | rfl | (simp [errW_none, errW_some] <;> rfl) | (simp [*, errW_none, errW_some] <;> rfl) | (exfalso; simp_all; done), by repeat (first | (with_reducible first | exact HB.out | apply below_alloc | apply pw_below_drewN | apply below_drew1) | exact HB.out)⟩
  · replace c4 := Bool.eq_false_iff.mpr c4
    subst c4
    have H1 : (some false) = some r := by rw [if_neg (show ¬ (false = true) by decide)] at H; exact H
    clear H
    have H := H1
    clear H1
    obtain rfl := Option.some.inj H
    go_enter Try.func5, Try.ntmps5
    go_wp2_with (first | ((with_reducible refine gate_callee (f := 9) rfl ?_); refine goesL_ (some 5) rfl rfl Try.func9 (by kernel_rfl) rfl #[] rfl (by (try simp only [List.map_toArray, List.map_cons, List.map_nil]); first | done | rfl | (simp only [List.length_drop, List.length_take]; rfl)) ?_; (with_reducible refine (vireolaw05_awake.calls k  false _ A3.out).mono ?_); rintro e w' ⟨rfl, ⟨nd, rfl⟩⟩; refine ⟨_, rfl, ?_⟩))
    go_ret
    exact ⟨by first | rfl | (simp [errW_none, errW_some] <;> rfl) | (simp [*, errW_none, errW_some] <;> rfl) | (exfalso; simp_all; done), by repeat (first | (with_reducible first | exact HB.out | apply below_alloc | apply pw_below_drewN | apply below_drew1) | exact HB.out)⟩

/-- THE ONE PURE STATEMENT of vireolaw05_AluExtends: yours. -/
def vireolaw05_AluExtends.Pure : Prop := ∀ (a0 : Int) (a1 : Int), (Lit.int .i64 a0).wf = true → (Lit.int .u64 a1).wf = true → ∃ k, vireolaw05_AluExtends.f k a0 a1 = some true
theorem vireolaw05_AluExtends.walk (P : vireolaw05_AluExtends.Pure) (a0 : Int) (a1 : Int) (w : World) (w0 : (Lit.int .i64 a0).wf = true) (w1 : (Lit.int .u64 a1).wf = true) :
    Calls Try.prog 5 #[.int .i64 a0, .int .u64 a1] w fun e w' => e = .returned (.bool true) ∧ Below w.heap.size w w' := by
  obtain ⟨k, h⟩ := P a0 a1 w0 w1
  refine (vireolaw05_AluExtends.calls k a0 a1 true w h).mono ?_
  rintro e w' ⟨rfl, hd⟩
  exact ⟨rfl, hd⟩

/-! ### vireolaw05_AluOpposites: function 6 -/
def vireolaw05_AluOpposites.f (k : Nat) (a0 : Int) (a1 : Int) : Option (Bool) := (vireolaw05_awake.f k).bind fun t230 => (if t230 = true then ((alu_Taken.f 5 a0 a1).bind fun t231 => ((alu_Taken.f 6 a0 a1).bind fun t232 => (if (t231 != t232) = true then ((alu_Taken.f 7 a0 a1).bind fun t233 => ((alu_Taken.f 8 a0 a1).bind fun t234 => (if (t233 != t234) = true then ((alu_Taken.f 9 a0 a1).bind fun t235 => ((alu_Taken.f 10 a0 a1).bind fun t236 => (some (t235 != t236)))) else (some false)))) else (some false)))) else (some false))
theorem vireolaw05_AluOpposites.mono : ∀ a0 a1 k, LeO (vireolaw05_AluOpposites.f k a0 a1) (vireolaw05_AluOpposites.f (k + 1) a0 a1) := by
  intro a0 a1 k
  unfold vireolaw05_AluOpposites.f
  repeat' first
      | (with_reducible exact vireolaw05_awake.mono _)
      | (with_reducible exact LeO.refl _)
      | (with_reducible exact LeO.none _)
      | (with_reducible refine LeO.ite ?_ ?_)
      | (with_reducible refine LeO.bind ?_ (fun _ => ?_))
      | exact vireolaw05_awake.mono _
      | exact LeO.none _
      | refine LeO.ite ?_ ?_
      | refine LeO.bind ?_ (fun _ => ?_)
set_option maxHeartbeats 8000000 in
set_option maxRecDepth 100000 in
theorem vireolaw05_AluOpposites.calls (k : Nat) (a0 : Int) (a1 : Int) (r : Bool) (w : World) (h : vireolaw05_AluOpposites.f k a0 a1 = some r) :
    Calls Try.prog 6 #[.int .u64 a0, .int .u64 a1] w fun e w' => e = .returned (.bool r) ∧ Drawn0 w w' := by
  have H : ((vireolaw05_awake.f k).bind fun t230 => (if t230 = true then ((alu_Taken.f 5 a0 a1).bind fun t231 => ((alu_Taken.f 6 a0 a1).bind fun t232 => (if (t231 != t232) = true then ((alu_Taken.f 7 a0 a1).bind fun t233 => ((alu_Taken.f 8 a0 a1).bind fun t234 => (if (t233 != t234) = true then ((alu_Taken.f 9 a0 a1).bind fun t235 => ((alu_Taken.f 10 a0 a1).bind fun t236 => (some (t235 != t236)))) else (some false)))) else (some false)))) else (some false))) = some r := h
  clear h
  replace H := Option.bind_eq_some_iff.mp H
  obtain ⟨t230, A30, H⟩ := H
  replace H : (if t230 = true then ((alu_Taken.f 5 a0 a1).bind fun t231 => ((alu_Taken.f 6 a0 a1).bind fun t232 => (if (t231 != t232) = true then ((alu_Taken.f 7 a0 a1).bind fun t233 => ((alu_Taken.f 8 a0 a1).bind fun t234 => (if (t233 != t234) = true then ((alu_Taken.f 9 a0 a1).bind fun t235 => ((alu_Taken.f 10 a0 a1).bind fun t236 => (some (t235 != t236)))) else (some false)))) else (some false)))) else (some false)) = some r := H
  have A3 := Aside0.mk A30
  clear A30
  by_cases c4 : t230 = true
  · subst c4
    have H1 : ((alu_Taken.f 5 a0 a1).bind fun t231 => ((alu_Taken.f 6 a0 a1).bind fun t232 => (if (t231 != t232) = true then ((alu_Taken.f 7 a0 a1).bind fun t233 => ((alu_Taken.f 8 a0 a1).bind fun t234 => (if (t233 != t234) = true then ((alu_Taken.f 9 a0 a1).bind fun t235 => ((alu_Taken.f 10 a0 a1).bind fun t236 => (some (t235 != t236)))) else (some false)))) else (some false)))) = some r := by rw [if_pos rfl] at H; exact H
    clear H
    have H := H1
    clear H1
    replace H := Option.bind_eq_some_iff.mp H
    obtain ⟨t231, A50, H⟩ := H
    replace H : ((alu_Taken.f 6 a0 a1).bind fun t232 => (if (t231 != t232) = true then ((alu_Taken.f 7 a0 a1).bind fun t233 => ((alu_Taken.f 8 a0 a1).bind fun t234 => (if (t233 != t234) = true then ((alu_Taken.f 9 a0 a1).bind fun t235 => ((alu_Taken.f 10 a0 a1).bind fun t236 => (some (t235 != t236)))) else (some false)))) else (some false))) = some r := H
    have A5 := Aside0.mk A50
    clear A50
    replace H := Option.bind_eq_some_iff.mp H
    obtain ⟨t232, A60, H⟩ := H
    replace H : (if (t231 != t232) = true then ((alu_Taken.f 7 a0 a1).bind fun t233 => ((alu_Taken.f 8 a0 a1).bind fun t234 => (if (t233 != t234) = true then ((alu_Taken.f 9 a0 a1).bind fun t235 => ((alu_Taken.f 10 a0 a1).bind fun t236 => (some (t235 != t236)))) else (some false)))) else (some false)) = some r := H
    have A6 := Aside0.mk A60
    clear A60
    by_cases c7 : (t231 != t232) = true
    · rw [if_pos c7] at H
      have c7b0 : (t231 != t232) = true := c7
      (try (have c7b1 : decide (t231 = t232) = false := by simpa using c7))
      (try (have c7b2 : (t231 == t232) = false := by simpa using c7))
      (try (have c7b3 : ¬ (t231 = t232) := by simpa using c7))
      clear c7
      replace H := Option.bind_eq_some_iff.mp H
      obtain ⟨t233, A80, H⟩ := H
      replace H : ((alu_Taken.f 8 a0 a1).bind fun t234 => (if (t233 != t234) = true then ((alu_Taken.f 9 a0 a1).bind fun t235 => ((alu_Taken.f 10 a0 a1).bind fun t236 => (some (t235 != t236)))) else (some false))) = some r := H
      have A8 := Aside0.mk A80
      clear A80
      replace H := Option.bind_eq_some_iff.mp H
      obtain ⟨t234, A90, H⟩ := H
      replace H : (if (t233 != t234) = true then ((alu_Taken.f 9 a0 a1).bind fun t235 => ((alu_Taken.f 10 a0 a1).bind fun t236 => (some (t235 != t236)))) else (some false)) = some r := H
      have A9 := Aside0.mk A90
      clear A90
      by_cases c10 : (t233 != t234) = true
      · rw [if_pos c10] at H
        have c10b0 : (t233 != t234) = true := c10
        (try (have c10b1 : decide (t233 = t234) = false := by simpa using c10))
        (try (have c10b2 : (t233 == t234) = false := by simpa using c10))
        (try (have c10b3 : ¬ (t233 = t234) := by simpa using c10))
        clear c10
        replace H := Option.bind_eq_some_iff.mp H
        obtain ⟨t235, A110, H⟩ := H
        replace H : ((alu_Taken.f 10 a0 a1).bind fun t236 => (some (t235 != t236))) = some r := H
        have A11 := Aside0.mk A110
        clear A110
        replace H := Option.bind_eq_some_iff.mp H
        obtain ⟨t236, A120, H⟩ := H
        replace H : (some (t235 != t236)) = some r := H
        have A12 := Aside0.mk A120
        clear A120
        obtain rfl := Option.some.inj H
        go_enter Try.func6, Try.ntmps6
        go_wp2_with (first | ((with_reducible refine gate_callee (f := 9) rfl ?_); refine goesL_ (some 5) rfl rfl Try.func9 (by kernel_rfl) rfl #[] rfl (by (try simp only [List.map_toArray, List.map_cons, List.map_nil]); first | done | rfl | (simp only [List.length_drop, List.length_take]; rfl)) ?_; (with_reducible refine (vireolaw05_awake.calls k  true _ A3.out).mono ?_); rintro e w' ⟨rfl, ⟨nd, rfl⟩⟩; refine ⟨_, rfl, ?_⟩) | ((with_reducible refine gate_callee (f := 12) rfl ?_); refine goesL_ (some 9) rfl rfl Try.func12 (by kernel_rfl) rfl #[.int .i64 5, .int .u64 a0, .int .u64 a1] rfl (by (try simp only [List.map_toArray, List.map_cons, List.map_nil]); first | done | rfl | (simp only [List.length_drop, List.length_take]; rfl)) ?_; (with_reducible refine (alu_Taken.calls 5 a0 a1 t231 _ A5.out).mono ?_); rintro e w' ⟨rfl, ⟨nd, rfl⟩⟩; refine ⟨_, rfl, ?_⟩) | ((with_reducible refine gate_callee (f := 12) rfl ?_); refine goesL_ (some 12) rfl rfl Try.func12 (by kernel_rfl) rfl #[.int .i64 6, .int .u64 a0, .int .u64 a1] rfl (by (try simp only [List.map_toArray, List.map_cons, List.map_nil]); first | done | rfl | (simp only [List.length_drop, List.length_take]; rfl)) ?_; (with_reducible refine (alu_Taken.calls 6 a0 a1 t232 _ A6.out).mono ?_); rintro e w' ⟨rfl, ⟨nd, rfl⟩⟩; refine ⟨_, rfl, ?_⟩) | (go_at_call 12; (with_reducible refine (alu_Taken.calls 7 a0 a1 t233 _ A8.out).mono ?_); rintro e w' ⟨rfl, ⟨nd, rfl⟩⟩) | (go_at_call 12; (with_reducible refine (alu_Taken.calls 8 a0 a1 t234 _ A9.out).mono ?_); rintro e w' ⟨rfl, ⟨nd, rfl⟩⟩) | (go_at_call 12; (with_reducible refine (alu_Taken.calls 9 a0 a1 t235 _ A11.out).mono ?_); rintro e w' ⟨rfl, ⟨nd, rfl⟩⟩) | (go_at_call 12; (with_reducible refine (alu_Taken.calls 10 a0 a1 t236 _ A12.out).mono ?_); rintro e w' ⟨rfl, ⟨nd, rfl⟩⟩))
        go_ret
        exact ⟨by first | rfl | (simp; done) | (simp [*]; done) | (exfalso; simp_all; done), by repeat (first | exact Drawn0.refl _ | apply Drawn0.step)⟩
      · rw [if_neg c10] at H
        have c10b0 : (t233 != t234) = false := by simpa using c10
        (try (have c10b1 : decide (t233 = t234) = true := by simpa using c10))
        (try (have c10b2 : (t233 == t234) = true := by simpa using c10))
        clear c10
        obtain rfl := Option.some.inj H
        go_enter Try.func6, Try.ntmps6
        go_wp2_with (first | ((with_reducible refine gate_callee (f := 9) rfl ?_); refine goesL_ (some 5) rfl rfl Try.func9 (by kernel_rfl) rfl #[] rfl (by (try simp only [List.map_toArray, List.map_cons, List.map_nil]); first | done | rfl | (simp only [List.length_drop, List.length_take]; rfl)) ?_; (with_reducible refine (vireolaw05_awake.calls k  true _ A3.out).mono ?_); rintro e w' ⟨rfl, ⟨nd, rfl⟩⟩; refine ⟨_, rfl, ?_⟩) | ((with_reducible refine gate_callee (f := 12) rfl ?_); refine goesL_ (some 9) rfl rfl Try.func12 (by kernel_rfl) rfl #[.int .i64 5, .int .u64 a0, .int .u64 a1] rfl (by (try simp only [List.map_toArray, List.map_cons, List.map_nil]); first | done | rfl | (simp only [List.length_drop, List.length_take]; rfl)) ?_; (with_reducible refine (alu_Taken.calls 5 a0 a1 t231 _ A5.out).mono ?_); rintro e w' ⟨rfl, ⟨nd, rfl⟩⟩; refine ⟨_, rfl, ?_⟩) | ((with_reducible refine gate_callee (f := 12) rfl ?_); refine goesL_ (some 12) rfl rfl Try.func12 (by kernel_rfl) rfl #[.int .i64 6, .int .u64 a0, .int .u64 a1] rfl (by (try simp only [List.map_toArray, List.map_cons, List.map_nil]); first | done | rfl | (simp only [List.length_drop, List.length_take]; rfl)) ?_; (with_reducible refine (alu_Taken.calls 6 a0 a1 t232 _ A6.out).mono ?_); rintro e w' ⟨rfl, ⟨nd, rfl⟩⟩; refine ⟨_, rfl, ?_⟩) | (go_at_call 12; (with_reducible refine (alu_Taken.calls 7 a0 a1 t233 _ A8.out).mono ?_); rintro e w' ⟨rfl, ⟨nd, rfl⟩⟩) | (go_at_call 12; (with_reducible refine (alu_Taken.calls 8 a0 a1 t234 _ A9.out).mono ?_); rintro e w' ⟨rfl, ⟨nd, rfl⟩⟩))
        go_ret
        exact ⟨by first | rfl | (simp; done) | (simp [*]; done) | (exfalso; simp_all; done), by repeat (first | exact Drawn0.refl _ | apply Drawn0.step)⟩
    · rw [if_neg c7] at H
      have c7b0 : (t231 != t232) = false := by simpa using c7
      (try (have c7b1 : decide (t231 = t232) = true := by simpa using c7))
      (try (have c7b2 : (t231 == t232) = true := by simpa using c7))
      clear c7
      obtain rfl := Option.some.inj H
      go_enter Try.func6, Try.ntmps6
      go_wp2_with (first | ((with_reducible refine gate_callee (f := 9) rfl ?_); refine goesL_ (some 5) rfl rfl Try.func9 (by kernel_rfl) rfl #[] rfl (by (try simp only [List.map_toArray, List.map_cons, List.map_nil]); first | done | rfl | (simp only [List.length_drop, List.length_take]; rfl)) ?_; (with_reducible refine (vireolaw05_awake.calls k  true _ A3.out).mono ?_); rintro e w' ⟨rfl, ⟨nd, rfl⟩⟩; refine ⟨_, rfl, ?_⟩) | ((with_reducible refine gate_callee (f := 12) rfl ?_); refine goesL_ (some 9) rfl rfl Try.func12 (by kernel_rfl) rfl #[.int .i64 5, .int .u64 a0, .int .u64 a1] rfl (by (try simp only [List.map_toArray, List.map_cons, List.map_nil]); first | done | rfl | (simp only [List.length_drop, List.length_take]; rfl)) ?_; (with_reducible refine (alu_Taken.calls 5 a0 a1 t231 _ A5.out).mono ?_); rintro e w' ⟨rfl, ⟨nd, rfl⟩⟩; refine ⟨_, rfl, ?_⟩) | ((with_reducible refine gate_callee (f := 12) rfl ?_); refine goesL_ (some 12) rfl rfl Try.func12 (by kernel_rfl) rfl #[.int .i64 6, .int .u64 a0, .int .u64 a1] rfl (by (try simp only [List.map_toArray, List.map_cons, List.map_nil]); first | done | rfl | (simp only [List.length_drop, List.length_take]; rfl)) ?_; (with_reducible refine (alu_Taken.calls 6 a0 a1 t232 _ A6.out).mono ?_); rintro e w' ⟨rfl, ⟨nd, rfl⟩⟩; refine ⟨_, rfl, ?_⟩))
      go_ret
      exact ⟨by first | rfl | (simp; done) | (simp [*]; done) | (exfalso; simp_all; done), by repeat (first | exact Drawn0.refl _ | apply Drawn0.step)⟩
  · replace c4 := Bool.eq_false_iff.mpr c4
    subst c4
    have H1 : (some false) = some r := by rw [if_neg (show ¬ (false = true) by decide)] at H; exact H
    clear H
    have H := H1
    clear H1
    obtain rfl := Option.some.inj H
    go_enter Try.func6, Try.ntmps6
    go_wp2_with (first | ((with_reducible refine gate_callee (f := 9) rfl ?_); refine goesL_ (some 5) rfl rfl Try.func9 (by kernel_rfl) rfl #[] rfl (by (try simp only [List.map_toArray, List.map_cons, List.map_nil]); first | done | rfl | (simp only [List.length_drop, List.length_take]; rfl)) ?_; (with_reducible refine (vireolaw05_awake.calls k  false _ A3.out).mono ?_); rintro e w' ⟨rfl, ⟨nd, rfl⟩⟩; refine ⟨_, rfl, ?_⟩))
    go_ret
    exact ⟨by first | rfl | (simp; done) | (simp [*]; done) | (exfalso; simp_all; done), by repeat (first | exact Drawn0.refl _ | apply Drawn0.step)⟩

/-- THE ONE PURE STATEMENT of vireolaw05_AluOpposites: yours. -/
def vireolaw05_AluOpposites.Pure : Prop := ∀ (a0 : Int) (a1 : Int), (Lit.int .u64 a0).wf = true → (Lit.int .u64 a1).wf = true → ∃ k, vireolaw05_AluOpposites.f k a0 a1 = some true
theorem vireolaw05_AluOpposites.walk (P : vireolaw05_AluOpposites.Pure) (a0 : Int) (a1 : Int) (w : World) (w0 : (Lit.int .u64 a0).wf = true) (w1 : (Lit.int .u64 a1).wf = true) :
    Calls Try.prog 6 #[.int .u64 a0, .int .u64 a1] w fun e w' => e = .returned (.bool true) ∧ Below w.heap.size w w' := by
  obtain ⟨k, h⟩ := P a0 a1 w0 w1
  refine (vireolaw05_AluOpposites.calls k a0 a1 true w h).mono ?_
  rintro e w' ⟨rfl, hd⟩
  exact ⟨rfl, hd.below⟩

/-! ### vireolaw05_AluUndoes: function 7 -/
def vireolaw05_AluUndoes.f (k : Nat) (a0 : Int) (a1 : Int) : Option (Bool) := (vireolaw05_awake.f k).bind fun t237 => (if t237 = true then ((alu_Do.f k 31 a0 a1).bind fun bt238 => ((alu_Do.f k 32 bt238.1 a1).bind fun bt240 => ((alu_Do.f k 36 a0 a1).bind fun bt242 => ((alu_Do.f k 36 bt242.1 a1).bind fun bt244 => ((alu_Do.f k 34 a0 a1).bind fun bt246 => ((alu_Do.f k 35 a0 a1).bind fun bt248 => (if bt240.1 = a0 then (if bt244.1 = a0 then ((alu_Taken.f 7 a0 a1).bind fun t250 => (if ((bt246.1 == 1) == t250) = true then ((alu_Taken.f 9 a0 a1).bind fun t251 => (if ((bt248.1 == 1) == t251) = true then (if bt246.1 < 2 then (some (decide (bt248.1 < 2))) else (some false)) else (some false))) else (some false))) else (some false)) else (some false)))))))) else (some false))
theorem vireolaw05_AluUndoes.mono : ∀ a0 a1 k, LeO (vireolaw05_AluUndoes.f k a0 a1) (vireolaw05_AluUndoes.f (k + 1) a0 a1) := by
  intro a0 a1 k
  unfold vireolaw05_AluUndoes.f
  repeat' first
      | (with_reducible exact alu_Do.mono _ _ _ _)
      | (with_reducible exact vireolaw05_awake.mono _)
      | (with_reducible exact LeO.refl _)
      | (with_reducible exact LeO.none _)
      | (with_reducible refine LeO.ite ?_ ?_)
      | (with_reducible refine LeO.bind ?_ (fun _ => ?_))
      | exact alu_Do.mono _ _ _ _
      | exact vireolaw05_awake.mono _
      | exact LeO.none _
      | refine LeO.ite ?_ ?_
      | refine LeO.bind ?_ (fun _ => ?_)
set_option maxHeartbeats 8000000 in
set_option maxRecDepth 100000 in
theorem vireolaw05_AluUndoes.calls (k : Nat) (a0 : Int) (a1 : Int) (r : Bool) (w : World) (h : vireolaw05_AluUndoes.f k a0 a1 = some r) :
    Calls Try.prog 7 #[.int .u64 a0, .int .u64 a1] w fun e w' => e = .returned (.bool r) ∧ Drawn0 w w' := by
  have H : ((vireolaw05_awake.f k).bind fun t237 => (if t237 = true then ((alu_Do.f k 31 a0 a1).bind fun bt238 => ((alu_Do.f k 32 bt238.1 a1).bind fun bt240 => ((alu_Do.f k 36 a0 a1).bind fun bt242 => ((alu_Do.f k 36 bt242.1 a1).bind fun bt244 => ((alu_Do.f k 34 a0 a1).bind fun bt246 => ((alu_Do.f k 35 a0 a1).bind fun bt248 => (if bt240.1 = a0 then (if bt244.1 = a0 then ((alu_Taken.f 7 a0 a1).bind fun t250 => (if ((bt246.1 == 1) == t250) = true then ((alu_Taken.f 9 a0 a1).bind fun t251 => (if ((bt248.1 == 1) == t251) = true then (if bt246.1 < 2 then (some (decide (bt248.1 < 2))) else (some false)) else (some false))) else (some false))) else (some false)) else (some false)))))))) else (some false))) = some r := h
  clear h
  replace H := Option.bind_eq_some_iff.mp H
  obtain ⟨t237, A30, H⟩ := H
  replace H : (if t237 = true then ((alu_Do.f k 31 a0 a1).bind fun bt238 => ((alu_Do.f k 32 bt238.1 a1).bind fun bt240 => ((alu_Do.f k 36 a0 a1).bind fun bt242 => ((alu_Do.f k 36 bt242.1 a1).bind fun bt244 => ((alu_Do.f k 34 a0 a1).bind fun bt246 => ((alu_Do.f k 35 a0 a1).bind fun bt248 => (if bt240.1 = a0 then (if bt244.1 = a0 then ((alu_Taken.f 7 a0 a1).bind fun t250 => (if ((bt246.1 == 1) == t250) = true then ((alu_Taken.f 9 a0 a1).bind fun t251 => (if ((bt248.1 == 1) == t251) = true then (if bt246.1 < 2 then (some (decide (bt248.1 < 2))) else (some false)) else (some false))) else (some false))) else (some false)) else (some false)))))))) else (some false)) = some r := H
  have A3 := Aside0.mk A30
  clear A30
  by_cases c4 : t237 = true
  · subst c4
    have H1 : ((alu_Do.f k 31 a0 a1).bind fun bt238 => ((alu_Do.f k 32 bt238.1 a1).bind fun bt240 => ((alu_Do.f k 36 a0 a1).bind fun bt242 => ((alu_Do.f k 36 bt242.1 a1).bind fun bt244 => ((alu_Do.f k 34 a0 a1).bind fun bt246 => ((alu_Do.f k 35 a0 a1).bind fun bt248 => (if bt240.1 = a0 then (if bt244.1 = a0 then ((alu_Taken.f 7 a0 a1).bind fun t250 => (if ((bt246.1 == 1) == t250) = true then ((alu_Taken.f 9 a0 a1).bind fun t251 => (if ((bt248.1 == 1) == t251) = true then (if bt246.1 < 2 then (some (decide (bt248.1 < 2))) else (some false)) else (some false))) else (some false))) else (some false)) else (some false)))))))) = some r := by rw [if_pos rfl] at H; exact H
    clear H
    have H := H1
    clear H1
    replace H := Option.bind_eq_some_iff.mp H
    obtain ⟨⟨t238, t239⟩, A50, H⟩ := H
    replace H : ((alu_Do.f k 32 t238 a1).bind fun bt240 => ((alu_Do.f k 36 a0 a1).bind fun bt242 => ((alu_Do.f k 36 bt242.1 a1).bind fun bt244 => ((alu_Do.f k 34 a0 a1).bind fun bt246 => ((alu_Do.f k 35 a0 a1).bind fun bt248 => (if bt240.1 = a0 then (if bt244.1 = a0 then ((alu_Taken.f 7 a0 a1).bind fun t250 => (if ((bt246.1 == 1) == t250) = true then ((alu_Taken.f 9 a0 a1).bind fun t251 => (if ((bt248.1 == 1) == t251) = true then (if bt246.1 < 2 then (some (decide (bt248.1 < 2))) else (some false)) else (some false))) else (some false))) else (some false)) else (some false))))))) = some r := H
    have A5 := Aside0.mk A50
    clear A50
    replace H := Option.bind_eq_some_iff.mp H
    obtain ⟨⟨t240, t241⟩, A60, H⟩ := H
    replace H : ((alu_Do.f k 36 a0 a1).bind fun bt242 => ((alu_Do.f k 36 bt242.1 a1).bind fun bt244 => ((alu_Do.f k 34 a0 a1).bind fun bt246 => ((alu_Do.f k 35 a0 a1).bind fun bt248 => (if t240 = a0 then (if bt244.1 = a0 then ((alu_Taken.f 7 a0 a1).bind fun t250 => (if ((bt246.1 == 1) == t250) = true then ((alu_Taken.f 9 a0 a1).bind fun t251 => (if ((bt248.1 == 1) == t251) = true then (if bt246.1 < 2 then (some (decide (bt248.1 < 2))) else (some false)) else (some false))) else (some false))) else (some false)) else (some false)))))) = some r := H
    have A6 := Aside0.mk A60
    clear A60
    replace H := Option.bind_eq_some_iff.mp H
    obtain ⟨⟨t242, t243⟩, A70, H⟩ := H
    replace H : ((alu_Do.f k 36 t242 a1).bind fun bt244 => ((alu_Do.f k 34 a0 a1).bind fun bt246 => ((alu_Do.f k 35 a0 a1).bind fun bt248 => (if t240 = a0 then (if bt244.1 = a0 then ((alu_Taken.f 7 a0 a1).bind fun t250 => (if ((bt246.1 == 1) == t250) = true then ((alu_Taken.f 9 a0 a1).bind fun t251 => (if ((bt248.1 == 1) == t251) = true then (if bt246.1 < 2 then (some (decide (bt248.1 < 2))) else (some false)) else (some false))) else (some false))) else (some false)) else (some false))))) = some r := H
    have A7 := Aside0.mk A70
    clear A70
    replace H := Option.bind_eq_some_iff.mp H
    obtain ⟨⟨t244, t245⟩, A80, H⟩ := H
    replace H : ((alu_Do.f k 34 a0 a1).bind fun bt246 => ((alu_Do.f k 35 a0 a1).bind fun bt248 => (if t240 = a0 then (if t244 = a0 then ((alu_Taken.f 7 a0 a1).bind fun t250 => (if ((bt246.1 == 1) == t250) = true then ((alu_Taken.f 9 a0 a1).bind fun t251 => (if ((bt248.1 == 1) == t251) = true then (if bt246.1 < 2 then (some (decide (bt248.1 < 2))) else (some false)) else (some false))) else (some false))) else (some false)) else (some false)))) = some r := H
    have A8 := Aside0.mk A80
    clear A80
    replace H := Option.bind_eq_some_iff.mp H
    obtain ⟨⟨t246, t247⟩, A90, H⟩ := H
    replace H : ((alu_Do.f k 35 a0 a1).bind fun bt248 => (if t240 = a0 then (if t244 = a0 then ((alu_Taken.f 7 a0 a1).bind fun t250 => (if ((t246 == 1) == t250) = true then ((alu_Taken.f 9 a0 a1).bind fun t251 => (if ((bt248.1 == 1) == t251) = true then (if t246 < 2 then (some (decide (bt248.1 < 2))) else (some false)) else (some false))) else (some false))) else (some false)) else (some false))) = some r := H
    have A9 := Aside0.mk A90
    clear A90
    replace H := Option.bind_eq_some_iff.mp H
    obtain ⟨⟨t248, t249⟩, A100, H⟩ := H
    replace H : (if t240 = a0 then (if t244 = a0 then ((alu_Taken.f 7 a0 a1).bind fun t250 => (if ((t246 == 1) == t250) = true then ((alu_Taken.f 9 a0 a1).bind fun t251 => (if ((t248 == 1) == t251) = true then (if t246 < 2 then (some (decide (t248 < 2))) else (some false)) else (some false))) else (some false))) else (some false)) else (some false)) = some r := H
    have A10 := Aside0.mk A100
    clear A100
    by_cases c11 : t240 = a0
    · rw [if_pos c11] at H
      have c11b0 : (t240 == a0) = true := beq_iff_eq.mpr c11
      have c11b1 : (t240 != a0) = false := bne_eq_false_iff_eq.mpr c11
      clear c11
      by_cases c12 : t244 = a0
      · rw [if_pos c12] at H
        have c12b0 : (t244 == a0) = true := beq_iff_eq.mpr c12
        have c12b1 : (t244 != a0) = false := bne_eq_false_iff_eq.mpr c12
        clear c12
        replace H := Option.bind_eq_some_iff.mp H
        obtain ⟨t250, A130, H⟩ := H
        replace H : (if ((t246 == 1) == t250) = true then ((alu_Taken.f 9 a0 a1).bind fun t251 => (if ((t248 == 1) == t251) = true then (if t246 < 2 then (some (decide (t248 < 2))) else (some false)) else (some false))) else (some false)) = some r := H
        have A13 := Aside0.mk A130
        clear A130
        by_cases c14 : ((t246 == 1) == t250) = true
        · rw [if_pos c14] at H
          have c14b0 : ((t246 == 1) == t250) = true := c14
          (try (have c14b1 : decide ((t246 == 1) = t250) = true := by simpa using c14))
          (try (have c14b2 : ((t246 == 1) == t250) = true := by simpa using c14))
          clear c14
          replace H := Option.bind_eq_some_iff.mp H
          obtain ⟨t251, A150, H⟩ := H
          replace H : (if ((t248 == 1) == t251) = true then (if t246 < 2 then (some (decide (t248 < 2))) else (some false)) else (some false)) = some r := H
          have A15 := Aside0.mk A150
          clear A150
          by_cases c16 : ((t248 == 1) == t251) = true
          · rw [if_pos c16] at H
            have c16b0 : ((t248 == 1) == t251) = true := c16
            (try (have c16b1 : decide ((t248 == 1) = t251) = true := by simpa using c16))
            (try (have c16b2 : ((t248 == 1) == t251) = true := by simpa using c16))
            clear c16
            by_cases c17 : t246 < 2
            · rw [if_pos c17] at H
              have c17b0 : decide (t246 < 2) = true := decide_eq_true c17
              clear c17
              obtain rfl := Option.some.inj H
              go_enter Try.func7, Try.ntmps7
              go_wp2_with (first | ((with_reducible refine gate_callee (f := 9) rfl ?_); refine goesL_ (some 17) rfl rfl Try.func9 (by kernel_rfl) rfl #[] rfl (by (try simp only [List.map_toArray, List.map_cons, List.map_nil]); first | done | rfl | (simp only [List.length_drop, List.length_take]; rfl)) ?_; (with_reducible refine (vireolaw05_awake.calls k  true _ A3.out).mono ?_); rintro e w' ⟨rfl, ⟨nd, rfl⟩⟩; refine ⟨_, rfl, ?_⟩) | ((with_reducible refine gate_callee (f := 10) rfl ?_); refine goesL_ (some 22) rfl rfl Try.func10 (by kernel_rfl) rfl #[.int .i64 31, .int .u64 a0, .int .u64 a1] rfl (by (try simp only [List.map_toArray, List.map_cons, List.map_nil]); first | done | rfl | (simp only [List.length_drop, List.length_take]; rfl)) ?_; (with_reducible refine (alu_Do.calls k 31 a0 a1 t238 t239 _ A5.out).mono ?_); rintro e w' ⟨rfl, ⟨nd, rfl⟩⟩; refine ⟨_, rfl, ?_⟩) | ((with_reducible refine gate_callee (f := 10) rfl ?_); refine goesL_ (some 28) rfl rfl Try.func10 (by kernel_rfl) rfl #[.int .i64 32, .int .u64 t238, .int .u64 a1] rfl (by (try simp only [List.map_toArray, List.map_cons, List.map_nil]); first | done | rfl | (simp only [List.length_drop, List.length_take]; rfl)) ?_; (with_reducible refine (alu_Do.calls k 32 t238 a1 t240 t241 _ A6.out).mono ?_); rintro e w' ⟨rfl, ⟨nd, rfl⟩⟩; refine ⟨_, rfl, ?_⟩) | ((with_reducible refine gate_callee (f := 10) rfl ?_); refine goesL_ (some 34) rfl rfl Try.func10 (by kernel_rfl) rfl #[.int .i64 36, .int .u64 a0, .int .u64 a1] rfl (by (try simp only [List.map_toArray, List.map_cons, List.map_nil]); first | done | rfl | (simp only [List.length_drop, List.length_take]; rfl)) ?_; (with_reducible refine (alu_Do.calls k 36 a0 a1 t242 t243 _ A7.out).mono ?_); rintro e w' ⟨rfl, ⟨nd, rfl⟩⟩; refine ⟨_, rfl, ?_⟩) | ((with_reducible refine gate_callee (f := 10) rfl ?_); refine goesL_ (some 40) rfl rfl Try.func10 (by kernel_rfl) rfl #[.int .i64 36, .int .u64 t242, .int .u64 a1] rfl (by (try simp only [List.map_toArray, List.map_cons, List.map_nil]); first | done | rfl | (simp only [List.length_drop, List.length_take]; rfl)) ?_; (with_reducible refine (alu_Do.calls k 36 t242 a1 t244 t245 _ A8.out).mono ?_); rintro e w' ⟨rfl, ⟨nd, rfl⟩⟩; refine ⟨_, rfl, ?_⟩) | ((with_reducible refine gate_callee (f := 10) rfl ?_); refine goesL_ (some 46) rfl rfl Try.func10 (by kernel_rfl) rfl #[.int .i64 34, .int .u64 a0, .int .u64 a1] rfl (by (try simp only [List.map_toArray, List.map_cons, List.map_nil]); first | done | rfl | (simp only [List.length_drop, List.length_take]; rfl)) ?_; (with_reducible refine (alu_Do.calls k 34 a0 a1 t246 t247 _ A9.out).mono ?_); rintro e w' ⟨rfl, ⟨nd, rfl⟩⟩; refine ⟨_, rfl, ?_⟩) | ((with_reducible refine gate_callee (f := 10) rfl ?_); refine goesL_ (some 52) rfl rfl Try.func10 (by kernel_rfl) rfl #[.int .i64 35, .int .u64 a0, .int .u64 a1] rfl (by (try simp only [List.map_toArray, List.map_cons, List.map_nil]); first | done | rfl | (simp only [List.length_drop, List.length_take]; rfl)) ?_; (with_reducible refine (alu_Do.calls k 35 a0 a1 t248 t249 _ A10.out).mono ?_); rintro e w' ⟨rfl, ⟨nd, rfl⟩⟩; refine ⟨_, rfl, ?_⟩) | (go_at_call 12; (with_reducible refine (alu_Taken.calls 7 a0 a1 t250 _ A13.out).mono ?_); rintro e w' ⟨rfl, ⟨nd, rfl⟩⟩) | (go_at_call 12; (with_reducible refine (alu_Taken.calls 9 a0 a1 t251 _ A15.out).mono ?_); rintro e w' ⟨rfl, ⟨nd, rfl⟩⟩))
              go_ret
              exact ⟨by first | rfl | (simp; done) | (simp [*]; done) | (exfalso; simp_all; done), by repeat (first | exact Drawn0.refl _ | apply Drawn0.step)⟩
            · rw [if_neg c17] at H
              have c17b0 : decide (t246 < 2) = false := decide_eq_false c17
              clear c17
              obtain rfl := Option.some.inj H
              go_enter Try.func7, Try.ntmps7
              go_wp2_with (first | ((with_reducible refine gate_callee (f := 9) rfl ?_); refine goesL_ (some 17) rfl rfl Try.func9 (by kernel_rfl) rfl #[] rfl (by (try simp only [List.map_toArray, List.map_cons, List.map_nil]); first | done | rfl | (simp only [List.length_drop, List.length_take]; rfl)) ?_; (with_reducible refine (vireolaw05_awake.calls k  true _ A3.out).mono ?_); rintro e w' ⟨rfl, ⟨nd, rfl⟩⟩; refine ⟨_, rfl, ?_⟩) | ((with_reducible refine gate_callee (f := 10) rfl ?_); refine goesL_ (some 22) rfl rfl Try.func10 (by kernel_rfl) rfl #[.int .i64 31, .int .u64 a0, .int .u64 a1] rfl (by (try simp only [List.map_toArray, List.map_cons, List.map_nil]); first | done | rfl | (simp only [List.length_drop, List.length_take]; rfl)) ?_; (with_reducible refine (alu_Do.calls k 31 a0 a1 t238 t239 _ A5.out).mono ?_); rintro e w' ⟨rfl, ⟨nd, rfl⟩⟩; refine ⟨_, rfl, ?_⟩) | ((with_reducible refine gate_callee (f := 10) rfl ?_); refine goesL_ (some 28) rfl rfl Try.func10 (by kernel_rfl) rfl #[.int .i64 32, .int .u64 t238, .int .u64 a1] rfl (by (try simp only [List.map_toArray, List.map_cons, List.map_nil]); first | done | rfl | (simp only [List.length_drop, List.length_take]; rfl)) ?_; (with_reducible refine (alu_Do.calls k 32 t238 a1 t240 t241 _ A6.out).mono ?_); rintro e w' ⟨rfl, ⟨nd, rfl⟩⟩; refine ⟨_, rfl, ?_⟩) | ((with_reducible refine gate_callee (f := 10) rfl ?_); refine goesL_ (some 34) rfl rfl Try.func10 (by kernel_rfl) rfl #[.int .i64 36, .int .u64 a0, .int .u64 a1] rfl (by (try simp only [List.map_toArray, List.map_cons, List.map_nil]); first | done | rfl | (simp only [List.length_drop, List.length_take]; rfl)) ?_; (with_reducible refine (alu_Do.calls k 36 a0 a1 t242 t243 _ A7.out).mono ?_); rintro e w' ⟨rfl, ⟨nd, rfl⟩⟩; refine ⟨_, rfl, ?_⟩) | ((with_reducible refine gate_callee (f := 10) rfl ?_); refine goesL_ (some 40) rfl rfl Try.func10 (by kernel_rfl) rfl #[.int .i64 36, .int .u64 t242, .int .u64 a1] rfl (by (try simp only [List.map_toArray, List.map_cons, List.map_nil]); first | done | rfl | (simp only [List.length_drop, List.length_take]; rfl)) ?_; (with_reducible refine (alu_Do.calls k 36 t242 a1 t244 t245 _ A8.out).mono ?_); rintro e w' ⟨rfl, ⟨nd, rfl⟩⟩; refine ⟨_, rfl, ?_⟩) | ((with_reducible refine gate_callee (f := 10) rfl ?_); refine goesL_ (some 46) rfl rfl Try.func10 (by kernel_rfl) rfl #[.int .i64 34, .int .u64 a0, .int .u64 a1] rfl (by (try simp only [List.map_toArray, List.map_cons, List.map_nil]); first | done | rfl | (simp only [List.length_drop, List.length_take]; rfl)) ?_; (with_reducible refine (alu_Do.calls k 34 a0 a1 t246 t247 _ A9.out).mono ?_); rintro e w' ⟨rfl, ⟨nd, rfl⟩⟩; refine ⟨_, rfl, ?_⟩) | ((with_reducible refine gate_callee (f := 10) rfl ?_); refine goesL_ (some 52) rfl rfl Try.func10 (by kernel_rfl) rfl #[.int .i64 35, .int .u64 a0, .int .u64 a1] rfl (by (try simp only [List.map_toArray, List.map_cons, List.map_nil]); first | done | rfl | (simp only [List.length_drop, List.length_take]; rfl)) ?_; (with_reducible refine (alu_Do.calls k 35 a0 a1 t248 t249 _ A10.out).mono ?_); rintro e w' ⟨rfl, ⟨nd, rfl⟩⟩; refine ⟨_, rfl, ?_⟩) | (go_at_call 12; (with_reducible refine (alu_Taken.calls 7 a0 a1 t250 _ A13.out).mono ?_); rintro e w' ⟨rfl, ⟨nd, rfl⟩⟩) | (go_at_call 12; (with_reducible refine (alu_Taken.calls 9 a0 a1 t251 _ A15.out).mono ?_); rintro e w' ⟨rfl, ⟨nd, rfl⟩⟩))
              go_ret
              exact ⟨by first | rfl | (simp; done) | (simp [*]; done) | (exfalso; simp_all; done), by repeat (first | exact Drawn0.refl _ | apply Drawn0.step)⟩
          · rw [if_neg c16] at H
            have c16b0 : ((t248 == 1) == t251) = false := by simpa using c16
            (try (have c16b1 : decide ((t248 == 1) = t251) = false := by simpa using c16))
            (try (have c16b2 : ((t248 == 1) == t251) = false := by simpa using c16))
            (try (have c16b3 : ¬ ((t248 == 1) = t251) := by simpa using c16))
            clear c16
            obtain rfl := Option.some.inj H
            go_enter Try.func7, Try.ntmps7
            go_wp2_with (first | ((with_reducible refine gate_callee (f := 9) rfl ?_); refine goesL_ (some 17) rfl rfl Try.func9 (by kernel_rfl) rfl #[] rfl (by (try simp only [List.map_toArray, List.map_cons, List.map_nil]); first | done | rfl | (simp only [List.length_drop, List.length_take]; rfl)) ?_; (with_reducible refine (vireolaw05_awake.calls k  true _ A3.out).mono ?_); rintro e w' ⟨rfl, ⟨nd, rfl⟩⟩; refine ⟨_, rfl, ?_⟩) | ((with_reducible refine gate_callee (f := 10) rfl ?_); refine goesL_ (some 22) rfl rfl Try.func10 (by kernel_rfl) rfl #[.int .i64 31, .int .u64 a0, .int .u64 a1] rfl (by (try simp only [List.map_toArray, List.map_cons, List.map_nil]); first | done | rfl | (simp only [List.length_drop, List.length_take]; rfl)) ?_; (with_reducible refine (alu_Do.calls k 31 a0 a1 t238 t239 _ A5.out).mono ?_); rintro e w' ⟨rfl, ⟨nd, rfl⟩⟩; refine ⟨_, rfl, ?_⟩) | ((with_reducible refine gate_callee (f := 10) rfl ?_); refine goesL_ (some 28) rfl rfl Try.func10 (by kernel_rfl) rfl #[.int .i64 32, .int .u64 t238, .int .u64 a1] rfl (by (try simp only [List.map_toArray, List.map_cons, List.map_nil]); first | done | rfl | (simp only [List.length_drop, List.length_take]; rfl)) ?_; (with_reducible refine (alu_Do.calls k 32 t238 a1 t240 t241 _ A6.out).mono ?_); rintro e w' ⟨rfl, ⟨nd, rfl⟩⟩; refine ⟨_, rfl, ?_⟩) | ((with_reducible refine gate_callee (f := 10) rfl ?_); refine goesL_ (some 34) rfl rfl Try.func10 (by kernel_rfl) rfl #[.int .i64 36, .int .u64 a0, .int .u64 a1] rfl (by (try simp only [List.map_toArray, List.map_cons, List.map_nil]); first | done | rfl | (simp only [List.length_drop, List.length_take]; rfl)) ?_; (with_reducible refine (alu_Do.calls k 36 a0 a1 t242 t243 _ A7.out).mono ?_); rintro e w' ⟨rfl, ⟨nd, rfl⟩⟩; refine ⟨_, rfl, ?_⟩) | ((with_reducible refine gate_callee (f := 10) rfl ?_); refine goesL_ (some 40) rfl rfl Try.func10 (by kernel_rfl) rfl #[.int .i64 36, .int .u64 t242, .int .u64 a1] rfl (by (try simp only [List.map_toArray, List.map_cons, List.map_nil]); first | done | rfl | (simp only [List.length_drop, List.length_take]; rfl)) ?_; (with_reducible refine (alu_Do.calls k 36 t242 a1 t244 t245 _ A8.out).mono ?_); rintro e w' ⟨rfl, ⟨nd, rfl⟩⟩; refine ⟨_, rfl, ?_⟩) | ((with_reducible refine gate_callee (f := 10) rfl ?_); refine goesL_ (some 46) rfl rfl Try.func10 (by kernel_rfl) rfl #[.int .i64 34, .int .u64 a0, .int .u64 a1] rfl (by (try simp only [List.map_toArray, List.map_cons, List.map_nil]); first | done | rfl | (simp only [List.length_drop, List.length_take]; rfl)) ?_; (with_reducible refine (alu_Do.calls k 34 a0 a1 t246 t247 _ A9.out).mono ?_); rintro e w' ⟨rfl, ⟨nd, rfl⟩⟩; refine ⟨_, rfl, ?_⟩) | ((with_reducible refine gate_callee (f := 10) rfl ?_); refine goesL_ (some 52) rfl rfl Try.func10 (by kernel_rfl) rfl #[.int .i64 35, .int .u64 a0, .int .u64 a1] rfl (by (try simp only [List.map_toArray, List.map_cons, List.map_nil]); first | done | rfl | (simp only [List.length_drop, List.length_take]; rfl)) ?_; (with_reducible refine (alu_Do.calls k 35 a0 a1 t248 t249 _ A10.out).mono ?_); rintro e w' ⟨rfl, ⟨nd, rfl⟩⟩; refine ⟨_, rfl, ?_⟩) | (go_at_call 12; (with_reducible refine (alu_Taken.calls 7 a0 a1 t250 _ A13.out).mono ?_); rintro e w' ⟨rfl, ⟨nd, rfl⟩⟩) | (go_at_call 12; (with_reducible refine (alu_Taken.calls 9 a0 a1 t251 _ A15.out).mono ?_); rintro e w' ⟨rfl, ⟨nd, rfl⟩⟩))
            go_ret
            exact ⟨by first | rfl | (simp; done) | (simp [*]; done) | (exfalso; simp_all; done), by repeat (first | exact Drawn0.refl _ | apply Drawn0.step)⟩
        · rw [if_neg c14] at H
          have c14b0 : ((t246 == 1) == t250) = false := by simpa using c14
          (try (have c14b1 : decide ((t246 == 1) = t250) = false := by simpa using c14))
          (try (have c14b2 : ((t246 == 1) == t250) = false := by simpa using c14))
          (try (have c14b3 : ¬ ((t246 == 1) = t250) := by simpa using c14))
          clear c14
          obtain rfl := Option.some.inj H
          go_enter Try.func7, Try.ntmps7
          go_wp2_with (first | ((with_reducible refine gate_callee (f := 9) rfl ?_); refine goesL_ (some 17) rfl rfl Try.func9 (by kernel_rfl) rfl #[] rfl (by (try simp only [List.map_toArray, List.map_cons, List.map_nil]); first | done | rfl | (simp only [List.length_drop, List.length_take]; rfl)) ?_; (with_reducible refine (vireolaw05_awake.calls k  true _ A3.out).mono ?_); rintro e w' ⟨rfl, ⟨nd, rfl⟩⟩; refine ⟨_, rfl, ?_⟩) | ((with_reducible refine gate_callee (f := 10) rfl ?_); refine goesL_ (some 22) rfl rfl Try.func10 (by kernel_rfl) rfl #[.int .i64 31, .int .u64 a0, .int .u64 a1] rfl (by (try simp only [List.map_toArray, List.map_cons, List.map_nil]); first | done | rfl | (simp only [List.length_drop, List.length_take]; rfl)) ?_; (with_reducible refine (alu_Do.calls k 31 a0 a1 t238 t239 _ A5.out).mono ?_); rintro e w' ⟨rfl, ⟨nd, rfl⟩⟩; refine ⟨_, rfl, ?_⟩) | ((with_reducible refine gate_callee (f := 10) rfl ?_); refine goesL_ (some 28) rfl rfl Try.func10 (by kernel_rfl) rfl #[.int .i64 32, .int .u64 t238, .int .u64 a1] rfl (by (try simp only [List.map_toArray, List.map_cons, List.map_nil]); first | done | rfl | (simp only [List.length_drop, List.length_take]; rfl)) ?_; (with_reducible refine (alu_Do.calls k 32 t238 a1 t240 t241 _ A6.out).mono ?_); rintro e w' ⟨rfl, ⟨nd, rfl⟩⟩; refine ⟨_, rfl, ?_⟩) | ((with_reducible refine gate_callee (f := 10) rfl ?_); refine goesL_ (some 34) rfl rfl Try.func10 (by kernel_rfl) rfl #[.int .i64 36, .int .u64 a0, .int .u64 a1] rfl (by (try simp only [List.map_toArray, List.map_cons, List.map_nil]); first | done | rfl | (simp only [List.length_drop, List.length_take]; rfl)) ?_; (with_reducible refine (alu_Do.calls k 36 a0 a1 t242 t243 _ A7.out).mono ?_); rintro e w' ⟨rfl, ⟨nd, rfl⟩⟩; refine ⟨_, rfl, ?_⟩) | ((with_reducible refine gate_callee (f := 10) rfl ?_); refine goesL_ (some 40) rfl rfl Try.func10 (by kernel_rfl) rfl #[.int .i64 36, .int .u64 t242, .int .u64 a1] rfl (by (try simp only [List.map_toArray, List.map_cons, List.map_nil]); first | done | rfl | (simp only [List.length_drop, List.length_take]; rfl)) ?_; (with_reducible refine (alu_Do.calls k 36 t242 a1 t244 t245 _ A8.out).mono ?_); rintro e w' ⟨rfl, ⟨nd, rfl⟩⟩; refine ⟨_, rfl, ?_⟩) | ((with_reducible refine gate_callee (f := 10) rfl ?_); refine goesL_ (some 46) rfl rfl Try.func10 (by kernel_rfl) rfl #[.int .i64 34, .int .u64 a0, .int .u64 a1] rfl (by (try simp only [List.map_toArray, List.map_cons, List.map_nil]); first | done | rfl | (simp only [List.length_drop, List.length_take]; rfl)) ?_; (with_reducible refine (alu_Do.calls k 34 a0 a1 t246 t247 _ A9.out).mono ?_); rintro e w' ⟨rfl, ⟨nd, rfl⟩⟩; refine ⟨_, rfl, ?_⟩) | ((with_reducible refine gate_callee (f := 10) rfl ?_); refine goesL_ (some 52) rfl rfl Try.func10 (by kernel_rfl) rfl #[.int .i64 35, .int .u64 a0, .int .u64 a1] rfl (by (try simp only [List.map_toArray, List.map_cons, List.map_nil]); first | done | rfl | (simp only [List.length_drop, List.length_take]; rfl)) ?_; (with_reducible refine (alu_Do.calls k 35 a0 a1 t248 t249 _ A10.out).mono ?_); rintro e w' ⟨rfl, ⟨nd, rfl⟩⟩; refine ⟨_, rfl, ?_⟩) | (go_at_call 12; (with_reducible refine (alu_Taken.calls 7 a0 a1 t250 _ A13.out).mono ?_); rintro e w' ⟨rfl, ⟨nd, rfl⟩⟩))
          go_ret
          exact ⟨by first | rfl | (simp; done) | (simp [*]; done) | (exfalso; simp_all; done), by repeat (first | exact Drawn0.refl _ | apply Drawn0.step)⟩
      · rw [if_neg c12] at H
        have c12b0 : (t244 == a0) = false := beq_eq_false_iff_ne.mpr c12
        have c12b1 : (t244 != a0) = true := bne_iff_ne.mpr c12
        obtain rfl := Option.some.inj H
        go_enter Try.func7, Try.ntmps7
        go_wp2_with (first | ((with_reducible refine gate_callee (f := 9) rfl ?_); refine goesL_ (some 17) rfl rfl Try.func9 (by kernel_rfl) rfl #[] rfl (by (try simp only [List.map_toArray, List.map_cons, List.map_nil]); first | done | rfl | (simp only [List.length_drop, List.length_take]; rfl)) ?_; (with_reducible refine (vireolaw05_awake.calls k  true _ A3.out).mono ?_); rintro e w' ⟨rfl, ⟨nd, rfl⟩⟩; refine ⟨_, rfl, ?_⟩) | ((with_reducible refine gate_callee (f := 10) rfl ?_); refine goesL_ (some 22) rfl rfl Try.func10 (by kernel_rfl) rfl #[.int .i64 31, .int .u64 a0, .int .u64 a1] rfl (by (try simp only [List.map_toArray, List.map_cons, List.map_nil]); first | done | rfl | (simp only [List.length_drop, List.length_take]; rfl)) ?_; (with_reducible refine (alu_Do.calls k 31 a0 a1 t238 t239 _ A5.out).mono ?_); rintro e w' ⟨rfl, ⟨nd, rfl⟩⟩; refine ⟨_, rfl, ?_⟩) | ((with_reducible refine gate_callee (f := 10) rfl ?_); refine goesL_ (some 28) rfl rfl Try.func10 (by kernel_rfl) rfl #[.int .i64 32, .int .u64 t238, .int .u64 a1] rfl (by (try simp only [List.map_toArray, List.map_cons, List.map_nil]); first | done | rfl | (simp only [List.length_drop, List.length_take]; rfl)) ?_; (with_reducible refine (alu_Do.calls k 32 t238 a1 t240 t241 _ A6.out).mono ?_); rintro e w' ⟨rfl, ⟨nd, rfl⟩⟩; refine ⟨_, rfl, ?_⟩) | ((with_reducible refine gate_callee (f := 10) rfl ?_); refine goesL_ (some 34) rfl rfl Try.func10 (by kernel_rfl) rfl #[.int .i64 36, .int .u64 a0, .int .u64 a1] rfl (by (try simp only [List.map_toArray, List.map_cons, List.map_nil]); first | done | rfl | (simp only [List.length_drop, List.length_take]; rfl)) ?_; (with_reducible refine (alu_Do.calls k 36 a0 a1 t242 t243 _ A7.out).mono ?_); rintro e w' ⟨rfl, ⟨nd, rfl⟩⟩; refine ⟨_, rfl, ?_⟩) | ((with_reducible refine gate_callee (f := 10) rfl ?_); refine goesL_ (some 40) rfl rfl Try.func10 (by kernel_rfl) rfl #[.int .i64 36, .int .u64 t242, .int .u64 a1] rfl (by (try simp only [List.map_toArray, List.map_cons, List.map_nil]); first | done | rfl | (simp only [List.length_drop, List.length_take]; rfl)) ?_; (with_reducible refine (alu_Do.calls k 36 t242 a1 t244 t245 _ A8.out).mono ?_); rintro e w' ⟨rfl, ⟨nd, rfl⟩⟩; refine ⟨_, rfl, ?_⟩) | ((with_reducible refine gate_callee (f := 10) rfl ?_); refine goesL_ (some 46) rfl rfl Try.func10 (by kernel_rfl) rfl #[.int .i64 34, .int .u64 a0, .int .u64 a1] rfl (by (try simp only [List.map_toArray, List.map_cons, List.map_nil]); first | done | rfl | (simp only [List.length_drop, List.length_take]; rfl)) ?_; (with_reducible refine (alu_Do.calls k 34 a0 a1 t246 t247 _ A9.out).mono ?_); rintro e w' ⟨rfl, ⟨nd, rfl⟩⟩; refine ⟨_, rfl, ?_⟩) | ((with_reducible refine gate_callee (f := 10) rfl ?_); refine goesL_ (some 52) rfl rfl Try.func10 (by kernel_rfl) rfl #[.int .i64 35, .int .u64 a0, .int .u64 a1] rfl (by (try simp only [List.map_toArray, List.map_cons, List.map_nil]); first | done | rfl | (simp only [List.length_drop, List.length_take]; rfl)) ?_; (with_reducible refine (alu_Do.calls k 35 a0 a1 t248 t249 _ A10.out).mono ?_); rintro e w' ⟨rfl, ⟨nd, rfl⟩⟩; refine ⟨_, rfl, ?_⟩))
        go_ret
        exact ⟨by first | rfl | (simp; done) | (simp [*]; done) | (exfalso; simp_all; done), by repeat (first | exact Drawn0.refl _ | apply Drawn0.step)⟩
    · rw [if_neg c11] at H
      have c11b0 : (t240 == a0) = false := beq_eq_false_iff_ne.mpr c11
      have c11b1 : (t240 != a0) = true := bne_iff_ne.mpr c11
      obtain rfl := Option.some.inj H
      go_enter Try.func7, Try.ntmps7
      go_wp2_with (first | ((with_reducible refine gate_callee (f := 9) rfl ?_); refine goesL_ (some 17) rfl rfl Try.func9 (by kernel_rfl) rfl #[] rfl (by (try simp only [List.map_toArray, List.map_cons, List.map_nil]); first | done | rfl | (simp only [List.length_drop, List.length_take]; rfl)) ?_; (with_reducible refine (vireolaw05_awake.calls k  true _ A3.out).mono ?_); rintro e w' ⟨rfl, ⟨nd, rfl⟩⟩; refine ⟨_, rfl, ?_⟩) | ((with_reducible refine gate_callee (f := 10) rfl ?_); refine goesL_ (some 22) rfl rfl Try.func10 (by kernel_rfl) rfl #[.int .i64 31, .int .u64 a0, .int .u64 a1] rfl (by (try simp only [List.map_toArray, List.map_cons, List.map_nil]); first | done | rfl | (simp only [List.length_drop, List.length_take]; rfl)) ?_; (with_reducible refine (alu_Do.calls k 31 a0 a1 t238 t239 _ A5.out).mono ?_); rintro e w' ⟨rfl, ⟨nd, rfl⟩⟩; refine ⟨_, rfl, ?_⟩) | ((with_reducible refine gate_callee (f := 10) rfl ?_); refine goesL_ (some 28) rfl rfl Try.func10 (by kernel_rfl) rfl #[.int .i64 32, .int .u64 t238, .int .u64 a1] rfl (by (try simp only [List.map_toArray, List.map_cons, List.map_nil]); first | done | rfl | (simp only [List.length_drop, List.length_take]; rfl)) ?_; (with_reducible refine (alu_Do.calls k 32 t238 a1 t240 t241 _ A6.out).mono ?_); rintro e w' ⟨rfl, ⟨nd, rfl⟩⟩; refine ⟨_, rfl, ?_⟩) | ((with_reducible refine gate_callee (f := 10) rfl ?_); refine goesL_ (some 34) rfl rfl Try.func10 (by kernel_rfl) rfl #[.int .i64 36, .int .u64 a0, .int .u64 a1] rfl (by (try simp only [List.map_toArray, List.map_cons, List.map_nil]); first | done | rfl | (simp only [List.length_drop, List.length_take]; rfl)) ?_; (with_reducible refine (alu_Do.calls k 36 a0 a1 t242 t243 _ A7.out).mono ?_); rintro e w' ⟨rfl, ⟨nd, rfl⟩⟩; refine ⟨_, rfl, ?_⟩) | ((with_reducible refine gate_callee (f := 10) rfl ?_); refine goesL_ (some 40) rfl rfl Try.func10 (by kernel_rfl) rfl #[.int .i64 36, .int .u64 t242, .int .u64 a1] rfl (by (try simp only [List.map_toArray, List.map_cons, List.map_nil]); first | done | rfl | (simp only [List.length_drop, List.length_take]; rfl)) ?_; (with_reducible refine (alu_Do.calls k 36 t242 a1 t244 t245 _ A8.out).mono ?_); rintro e w' ⟨rfl, ⟨nd, rfl⟩⟩; refine ⟨_, rfl, ?_⟩) | ((with_reducible refine gate_callee (f := 10) rfl ?_); refine goesL_ (some 46) rfl rfl Try.func10 (by kernel_rfl) rfl #[.int .i64 34, .int .u64 a0, .int .u64 a1] rfl (by (try simp only [List.map_toArray, List.map_cons, List.map_nil]); first | done | rfl | (simp only [List.length_drop, List.length_take]; rfl)) ?_; (with_reducible refine (alu_Do.calls k 34 a0 a1 t246 t247 _ A9.out).mono ?_); rintro e w' ⟨rfl, ⟨nd, rfl⟩⟩; refine ⟨_, rfl, ?_⟩) | ((with_reducible refine gate_callee (f := 10) rfl ?_); refine goesL_ (some 52) rfl rfl Try.func10 (by kernel_rfl) rfl #[.int .i64 35, .int .u64 a0, .int .u64 a1] rfl (by (try simp only [List.map_toArray, List.map_cons, List.map_nil]); first | done | rfl | (simp only [List.length_drop, List.length_take]; rfl)) ?_; (with_reducible refine (alu_Do.calls k 35 a0 a1 t248 t249 _ A10.out).mono ?_); rintro e w' ⟨rfl, ⟨nd, rfl⟩⟩; refine ⟨_, rfl, ?_⟩))
      go_ret
      exact ⟨by first | rfl | (simp; done) | (simp [*]; done) | (exfalso; simp_all; done), by repeat (first | exact Drawn0.refl _ | apply Drawn0.step)⟩
  · replace c4 := Bool.eq_false_iff.mpr c4
    subst c4
    have H1 : (some false) = some r := by rw [if_neg (show ¬ (false = true) by decide)] at H; exact H
    clear H
    have H := H1
    clear H1
    obtain rfl := Option.some.inj H
    go_enter Try.func7, Try.ntmps7
    go_wp2_with (first | ((with_reducible refine gate_callee (f := 9) rfl ?_); refine goesL_ (some 17) rfl rfl Try.func9 (by kernel_rfl) rfl #[] rfl (by (try simp only [List.map_toArray, List.map_cons, List.map_nil]); first | done | rfl | (simp only [List.length_drop, List.length_take]; rfl)) ?_; (with_reducible refine (vireolaw05_awake.calls k  false _ A3.out).mono ?_); rintro e w' ⟨rfl, ⟨nd, rfl⟩⟩; refine ⟨_, rfl, ?_⟩))
    go_ret
    exact ⟨by first | rfl | (simp; done) | (simp [*]; done) | (exfalso; simp_all; done), by repeat (first | exact Drawn0.refl _ | apply Drawn0.step)⟩

/-- THE ONE PURE STATEMENT of vireolaw05_AluUndoes: yours. -/
def vireolaw05_AluUndoes.Pure : Prop := ∀ (a0 : Int) (a1 : Int), (Lit.int .u64 a0).wf = true → (Lit.int .u64 a1).wf = true → ∃ k, vireolaw05_AluUndoes.f k a0 a1 = some true
theorem vireolaw05_AluUndoes.walk (P : vireolaw05_AluUndoes.Pure) (a0 : Int) (a1 : Int) (w : World) (w0 : (Lit.int .u64 a0).wf = true) (w1 : (Lit.int .u64 a1).wf = true) :
    Calls Try.prog 7 #[.int .u64 a0, .int .u64 a1] w fun e w' => e = .returned (.bool true) ∧ Below w.heap.size w w' := by
  obtain ⟨k, h⟩ := P a0 a1 w0 w1
  refine (vireolaw05_AluUndoes.calls k a0 a1 true w h).mono ?_
  rintro e w' ⟨rfl, hd⟩
  exact ⟨rfl, hd.below⟩

/-! ### vireolaw05_AluNumbers: function 8 -/
def vireolaw05_AluNumbers.l0 : Nat → Int → Int → Int → List (S30) → Int → Option (Bool)
  | 0, _, _, _, _, _ => none
  | k + 1, x0, x1, x2, x7, x8 => if x8 < (x7.length : Int) then (if 0 ≤ x8 then ((alu_Do.f k ((rd_T30 x7 x8).f0) x0 x1).bind fun bt257 => ((alu_Do.f k ((rd_T30 x7 x8).f1) x0 x1).bind fun bt260 => (if bt257.1 = bt260.1 then ((alu_Do.f k ((rd_T30 x7 x8).f0) (Go.bits .xor .u64 x0 (IntKind.u64.wrap (x2 * 4294967296))) x1).bind fun bt263 => (if x8 ≥ 9 then (if bt263.1 = bt257.1 then (vireolaw05_AluNumbers.l0 k x0 x1 x2 x7 (wrap64 (x8 + 1))) else (some false)) else (vireolaw05_AluNumbers.l0 k x0 x1 x2 x7 (wrap64 (x8 + 1))))) else (some false)))) else (none)) else (some true)
def vireolaw05_AluNumbers.f (k : Nat) (a0 : Int) (a1 : Int) (a2 : Int) : Option (Bool) := (vireolaw05_awake.f k).bind fun t252 => (if t252 = true then (vireolaw05_AluNumbers.l0 k a0 a1 a2 (([(⟨31, 22⟩ : S30), (⟨34, 23⟩ : S30), (⟨35, 24⟩ : S30), (⟨36, 25⟩ : S30), (⟨39, 26⟩ : S30), (⟨40, 27⟩ : S30), (⟨33, 28⟩ : S30), (⟨37, 29⟩ : S30), (⟨38, 30⟩ : S30), (⟨45, 41⟩ : S30), (⟨47, 42⟩ : S30), (⟨48, 43⟩ : S30), (⟨49, 44⟩ : S30)] : List (S30))) 0) else (some false))
theorem vireolaw05_AluNumbers.mono_l : ∀ k, (∀ y0 y1 y2 y3 y4, LeO (vireolaw05_AluNumbers.l0 k y0 y1 y2 y3 y4) (vireolaw05_AluNumbers.l0 (k + 1) y0 y1 y2 y3 y4))
  | 0 => fun _ _ _ _ _ r h => by simp [vireolaw05_AluNumbers.l0] at h
  | k + 1 => by
    have ih0 := vireolaw05_AluNumbers.mono_l k
    · intro y0 y1 y2 y3 y4
      unfold vireolaw05_AluNumbers.l0
      repeat' first
      | (with_reducible exact ih0 _ _ _ _ _)
      | (with_reducible exact alu_Do.mono _ _ _ _)
      | (with_reducible exact vireolaw05_awake.mono _)
      | (with_reducible exact LeO.refl _)
      | (with_reducible exact LeO.none _)
      | (with_reducible refine LeO.ite ?_ ?_)
      | (with_reducible refine LeO.bind ?_ (fun _ => ?_))
      | exact ih0 _ _ _ _ _
      | exact alu_Do.mono _ _ _ _
      | exact vireolaw05_awake.mono _
      | exact LeO.none _
      | refine LeO.ite ?_ ?_
      | refine LeO.bind ?_ (fun _ => ?_)
theorem vireolaw05_AluNumbers.mono : ∀ a0 a1 a2 k, LeO (vireolaw05_AluNumbers.f k a0 a1 a2) (vireolaw05_AluNumbers.f (k + 1) a0 a1 a2) := by
  intro a0 a1 a2 k
  have ih0 := vireolaw05_AluNumbers.mono_l k
  unfold vireolaw05_AluNumbers.f
  repeat' first
      | (with_reducible exact ih0 _ _ _ _ _)
      | (with_reducible exact alu_Do.mono _ _ _ _)
      | (with_reducible exact vireolaw05_awake.mono _)
      | (with_reducible exact LeO.refl _)
      | (with_reducible exact LeO.none _)
      | (with_reducible refine LeO.ite ?_ ?_)
      | (with_reducible refine LeO.bind ?_ (fun _ => ?_))
      | exact ih0 _ _ _ _ _
      | exact alu_Do.mono _ _ _ _
      | exact vireolaw05_awake.mono _
      | exact LeO.none _
      | refine LeO.ite ?_ ?_
      | refine LeO.bind ?_ (fun _ => ?_)
set_option maxHeartbeats 8000000 in
set_option maxRecDepth 100000 in
theorem vireolaw05_AluNumbers.calls (k : Nat) (a0 : Int) (a1 : Int) (a2 : Int) (r : Bool) (w : World) (h : vireolaw05_AluNumbers.f k a0 a1 a2 = some r) :
    Calls Try.prog 8 #[.int .u64 a0, .int .u64 a1, .int .u64 a2] w fun e w' => e = .returned (.bool r) ∧ Below w.heap.size w w' := by
  have hu30 := Try.underlying30
  have HB := Aside0.mk (Below.refl w.heap.size w)
  have H : ((vireolaw05_awake.f k).bind fun t252 => (if t252 = true then (vireolaw05_AluNumbers.l0 k a0 a1 a2 (([(⟨31, 22⟩ : S30), (⟨34, 23⟩ : S30), (⟨35, 24⟩ : S30), (⟨36, 25⟩ : S30), (⟨39, 26⟩ : S30), (⟨40, 27⟩ : S30), (⟨33, 28⟩ : S30), (⟨37, 29⟩ : S30), (⟨38, 30⟩ : S30), (⟨45, 41⟩ : S30), (⟨47, 42⟩ : S30), (⟨48, 43⟩ : S30), (⟨49, 44⟩ : S30)] : List (S30))) 0) else (some false))) = some r := h
  clear h
  replace H := Option.bind_eq_some_iff.mp H
  obtain ⟨t252, A40, H⟩ := H
  replace H : (if t252 = true then (vireolaw05_AluNumbers.l0 k a0 a1 a2 (([(⟨31, 22⟩ : S30), (⟨34, 23⟩ : S30), (⟨35, 24⟩ : S30), (⟨36, 25⟩ : S30), (⟨39, 26⟩ : S30), (⟨40, 27⟩ : S30), (⟨33, 28⟩ : S30), (⟨37, 29⟩ : S30), (⟨38, 30⟩ : S30), (⟨45, 41⟩ : S30), (⟨47, 42⟩ : S30), (⟨48, 43⟩ : S30), (⟨49, 44⟩ : S30)] : List (S30))) 0) else (some false)) = some r := H
  have A4 := Aside0.mk A40
  clear A40
  by_cases c5 : t252 = true
  · subst c5
    have H1 : (vireolaw05_AluNumbers.l0 k a0 a1 a2 (([(⟨31, 22⟩ : S30), (⟨34, 23⟩ : S30), (⟨35, 24⟩ : S30), (⟨36, 25⟩ : S30), (⟨39, 26⟩ : S30), (⟨40, 27⟩ : S30), (⟨33, 28⟩ : S30), (⟨37, 29⟩ : S30), (⟨38, 30⟩ : S30), (⟨45, 41⟩ : S30), (⟨47, 42⟩ : S30), (⟨48, 43⟩ : S30), (⟨49, 44⟩ : S30)] : List (S30))) 0) = some r := by rw [if_pos rfl] at H; exact H
    clear H
    have H := H1
    clear H1
    obtain ⟨y253, hy253⟩ : ∃ y_ : List (S30), y_ = (([(⟨31, 22⟩ : S30), (⟨34, 23⟩ : S30), (⟨35, 24⟩ : S30), (⟨36, 25⟩ : S30), (⟨39, 26⟩ : S30), (⟨40, 27⟩ : S30), (⟨33, 28⟩ : S30), (⟨37, 29⟩ : S30), (⟨38, 30⟩ : S30), (⟨45, 41⟩ : S30), (⟨47, 42⟩ : S30), (⟨48, 43⟩ : S30), (⟨49, 44⟩ : S30)] : List (S30))) := ⟨_, rfl⟩
    replace H : (vireolaw05_AluNumbers.l0 k a0 a1 a2 y253 0) = some r := by first | (rw [hy253]; with_reducible exact H) | (have H2_ := (Option.bind_some _ _).symm.trans H; rw [hy253]; with_reducible exact H2_) | (have H2_ := (Option.bind_some _ _).symm.trans H; with_reducible exact H2_) | with_reducible exact H | (rw [hy253]; exact H) | exact H
    have Ny253 := Aside0.mk hy253
    clear hy253
    have H' := Aside0.mk H
    clear H
    go_enter Try.func8, Try.ntmps8
    go_wp2_with (first | ((with_reducible refine gate_callee (f := 9) rfl ?_); refine goesL_ (some 15) rfl rfl Try.func9 (by kernel_rfl) rfl #[] rfl (by (try simp only [List.map_toArray, List.map_cons, List.map_nil]); first | done | rfl | (simp only [List.length_drop, List.length_take]; rfl)) ?_; (with_reducible refine (vireolaw05_awake.calls k  true _ A4.out).mono ?_); rintro e w' ⟨rfl, ⟨nd, rfl⟩⟩; refine ⟨_, rfl, ?_⟩) | ((with_reducible refine gate_dst (N := 30) rfl ?_); refine Kd.R_lit k30 _ 30 ?hg (N := 30) ?hd (xs := ([(⟨31, 22⟩ : S30), (⟨34, 23⟩ : S30), (⟨35, 24⟩ : S30), (⟨36, 25⟩ : S30), (⟨39, 26⟩ : S30), (⟨40, 27⟩ : S30), (⟨33, 28⟩ : S30), (⟨37, 29⟩ : S30), (⟨38, 30⟩ : S30), (⟨45, 41⟩ : S30), (⟨47, 42⟩ : S30), (⟨48, 43⟩ : S30), (⟨49, 44⟩ : S30)] : List (S30))) (inner := [.int .i64 31, .int .i64 22, .int .i64 34, .int .i64 23, .int .i64 35, .int .i64 24, .int .i64 36, .int .i64 25, .int .i64 39, .int .i64 26, .int .i64 40, .int .i64 27, .int .i64 33, .int .i64 28, .int .i64 37, .int .i64 29, .int .i64 38, .int .i64 30, .int .i64 45, .int .i64 41, .int .i64 47, .int .i64 42, .int .i64 48, .int .i64 43, .int .i64 49, .int .i64 44]) (ok := fun _ => True) (okp := fun _ => True) ?hr ?hp (fun _ hk => hk) trivial (Below.refl _ _) (Nat.le_refl _) (by simp) ?_; (case hd => rfl); (case hg => rfl); (case hr => first | (go_simp; done) | (go_simp; rfl)); (case hp => exact (Reps.c2 (show Kd.M k30 _ _ _ (⟨31, 22⟩ : S30) [.int .i64 31, .int .i64 22] from (k30_mkM _ _ _ (⟨31, 22⟩ : S30) )) (Reps.c2 (show Kd.M k30 _ _ _ (⟨34, 23⟩ : S30) [.int .i64 34, .int .i64 23] from (k30_mkM _ _ _ (⟨34, 23⟩ : S30) )) (Reps.c2 (show Kd.M k30 _ _ _ (⟨35, 24⟩ : S30) [.int .i64 35, .int .i64 24] from (k30_mkM _ _ _ (⟨35, 24⟩ : S30) )) (Reps.c2 (show Kd.M k30 _ _ _ (⟨36, 25⟩ : S30) [.int .i64 36, .int .i64 25] from (k30_mkM _ _ _ (⟨36, 25⟩ : S30) )) (Reps.c2 (show Kd.M k30 _ _ _ (⟨39, 26⟩ : S30) [.int .i64 39, .int .i64 26] from (k30_mkM _ _ _ (⟨39, 26⟩ : S30) )) (Reps.c2 (show Kd.M k30 _ _ _ (⟨40, 27⟩ : S30) [.int .i64 40, .int .i64 27] from (k30_mkM _ _ _ (⟨40, 27⟩ : S30) )) (Reps.c2 (show Kd.M k30 _ _ _ (⟨33, 28⟩ : S30) [.int .i64 33, .int .i64 28] from (k30_mkM _ _ _ (⟨33, 28⟩ : S30) )) (Reps.c2 (show Kd.M k30 _ _ _ (⟨37, 29⟩ : S30) [.int .i64 37, .int .i64 29] from (k30_mkM _ _ _ (⟨37, 29⟩ : S30) )) (Reps.c2 (show Kd.M k30 _ _ _ (⟨38, 30⟩ : S30) [.int .i64 38, .int .i64 30] from (k30_mkM _ _ _ (⟨38, 30⟩ : S30) )) (Reps.c2 (show Kd.M k30 _ _ _ (⟨45, 41⟩ : S30) [.int .i64 45, .int .i64 41] from (k30_mkM _ _ _ (⟨45, 41⟩ : S30) )) (Reps.c2 (show Kd.M k30 _ _ _ (⟨47, 42⟩ : S30) [.int .i64 47, .int .i64 42] from (k30_mkM _ _ _ (⟨47, 42⟩ : S30) )) (Reps.c2 (show Kd.M k30 _ _ _ (⟨48, 43⟩ : S30) [.int .i64 48, .int .i64 43] from (k30_mkM _ _ _ (⟨48, 43⟩ : S30) )) (Reps.c2 (show Kd.M k30 _ _ _ (⟨49, 44⟩ : S30) [.int .i64 49, .int .i64 44] from (k30_mkM _ _ _ (⟨49, 44⟩ : S30) )) (Reps.none _ _))))))))))))))); intro v254 w6 ho7 hb hg_ hnew_; clear hg_ hnew_; (first | rw [← Ny253.out] at ho7 | (simp only [Int.reduceToNat] at ho7; rw [← Ny253.out] at ho7)); have n0_ := Aside0.mk (Kd.R_lower ho7 (below_size (by repeat (first | (with_reducible first | exact HB.out | apply below_alloc | apply pw_below_drewN | apply below_drew1) | exact HB.out)))); have n1_ := Aside0.mk (below_step (by repeat (first | (with_reducible first | exact HB.out | apply below_alloc | apply pw_below_drewN | apply below_drew1) | exact HB.out)) hb); clear HB; have HO255 := n0_; have HB := n1_; clear n0_ n1_; clear hb ho7))
    go_loopg [8] k (fun kq v8 w' => ∃ (x8_1 : Int), v8 = .int .i64 x8_1 ∧ Aside0 (vireolaw05_AluNumbers.l0 kq a0 a1 a2 y253 x8_1 = some r) ∧ Aside0 (kq ≤ k) ∧ Aside0 (Kd.R k30 30 w' w.heap.size (fun _ => True) v254 y253) ∧ Aside0 (Below w.heap.size w w'))
    case atStart => exact ⟨(0), (by first | rfl | (simp; done) | (simp [*]; done) | (exfalso; simp_all; done)), H', ⟨Nat.le_refl _⟩, ⟨by (with_reducible repeat (first | apply Kd.R_alloc | apply Kd.R_drewN | apply Kd.R_drew)); exact HO255.out⟩, ⟨by repeat (first | (with_reducible first | exact HB.out | apply below_alloc | apply pw_below_drewN | apply below_drew1) | exact HB.out)⟩⟩
    case round =>
      clear H'
      try clear c2
      try clear p2
      try clear c5
      obtain ⟨x8_1, rfl, HA, HK1, HO_7, HB⟩ := hrel
      cases gk with
      | zero => exact absurd HA.out (by simp [vireolaw05_AluNumbers.l0])
      | succ k1 =>
        have H := HA.out
        clear HA
        simp only [vireolaw05_AluNumbers.l0] at H
        by_cases c8 : x8_1 < (y253.length : Int)
        · rw [if_pos c8] at H
          have c8b0 : decide (x8_1 < (y253.length : Int)) = true := decide_eq_true c8
          clear c8
          by_cases c9 : 0 ≤ x8_1
          · rw [if_pos c9] at H
            have c9b0 : decide (0 ≤ x8_1) = true := decide_eq_true c9
            clear c9
            replace H := Option.bind_eq_some_iff.mp H
            obtain ⟨⟨t257, t258⟩, A100, H⟩ := H
            replace H : ((alu_Do.f k1 ((rd_T30 y253 x8_1).f1) a0 a1).bind fun bt260 => (if t257 = bt260.1 then ((alu_Do.f k1 ((rd_T30 y253 x8_1).f0) (Go.bits .xor .u64 a0 (IntKind.u64.wrap (a2 * 4294967296))) a1).bind fun bt263 => (if x8_1 ≥ 9 then (if bt263.1 = t257 then (vireolaw05_AluNumbers.l0 k1 a0 a1 a2 y253 (wrap64 (x8_1 + 1))) else (some false)) else (vireolaw05_AluNumbers.l0 k1 a0 a1 a2 y253 (wrap64 (x8_1 + 1))))) else (some false))) = some r := H
            have A10 := Aside0.mk A100
            clear A100
            replace H := Option.bind_eq_some_iff.mp H
            obtain ⟨⟨t260, t261⟩, A110, H⟩ := H
            replace H : (if t257 = t260 then ((alu_Do.f k1 ((rd_T30 y253 x8_1).f0) (Go.bits .xor .u64 a0 (IntKind.u64.wrap (a2 * 4294967296))) a1).bind fun bt263 => (if x8_1 ≥ 9 then (if bt263.1 = t257 then (vireolaw05_AluNumbers.l0 k1 a0 a1 a2 y253 (wrap64 (x8_1 + 1))) else (some false)) else (vireolaw05_AluNumbers.l0 k1 a0 a1 a2 y253 (wrap64 (x8_1 + 1))))) else (some false)) = some r := H
            have A11 := Aside0.mk A110
            clear A110
            by_cases c12 : t257 = t260
            · rw [if_pos c12] at H
              have c12b0 : (t257 == t260) = true := beq_iff_eq.mpr c12
              have c12b1 : (t257 != t260) = false := bne_eq_false_iff_eq.mpr c12
              clear c12
              replace H := Option.bind_eq_some_iff.mp H
              obtain ⟨⟨t263, t264⟩, A130, H⟩ := H
              replace H : (if x8_1 ≥ 9 then (if t263 = t257 then (vireolaw05_AluNumbers.l0 k1 a0 a1 a2 y253 (wrap64 (x8_1 + 1))) else (some false)) else (vireolaw05_AluNumbers.l0 k1 a0 a1 a2 y253 (wrap64 (x8_1 + 1)))) = some r := H
              have A13 := Aside0.mk A130
              clear A130
              by_cases c14 : x8_1 ≥ 9
              · rw [if_pos c14] at H
                have c14b0 : decide (9 ≤ x8_1) = true := decide_eq_true c14
                clear c14
                by_cases c15 : t263 = t257
                · rw [if_pos c15] at H
                  have c15b0 : (t263 == t257) = true := beq_iff_eq.mpr c15
                  have c15b1 : (t263 != t257) = false := bne_eq_false_iff_eq.mpr c15
                  clear c15
                  have H' := Aside0.mk H
                  clear H
                  obtain ⟨Ao16, co16, eo16⟩ := Kd.R_slice HO_7.out
                  subst eo16
                  have p256 : 0 ≤ (x8_1 : Int) := of_decide_eq_true (by first | (with_reducible assumption) | assumption)
                  have q256 : x8_1 < (y253.length : Int) := of_decide_eq_true (by first | (with_reducible assumption) | assumption)
                  obtain ⟨ad256, e256, hx256_0, hx256_1⟩ := at_T30 (Kd.R_reads' HO_7.out).2.2 x8_1 p256 q256
                  cases e256
                  replace p256 := eq_true p256
                  replace q256 := eq_true q256
                  go_wp2_with (first | ((with_reducible refine gate_callee (f := 10) rfl ?_); refine goesL_ (some 45) rfl rfl Try.func10 (by kernel_rfl) rfl #[.int .i64 ((rd_T30 y253 x8_1).f0), .int .u64 a0, .int .u64 a1] rfl (by (try simp only [List.map_toArray, List.map_cons, List.map_nil]); first | done | rfl | (simp only [List.length_drop, List.length_take]; rfl)) ?_; (with_reducible refine (alu_Do.calls k1 ((rd_T30 y253 x8_1).f0) a0 a1 t257 t258 _ A10.out).mono ?_); rintro e w' ⟨rfl, ⟨nd, rfl⟩⟩; refine ⟨_, rfl, ?_⟩; have p259 : 0 ≤ (x8_1 : Int) := of_decide_eq_true (by first | (with_reducible assumption) | assumption); have q259 : x8_1 < (y253.length : Int) := of_decide_eq_true (by first | (with_reducible assumption) | assumption); obtain ⟨ad259, e259, hx259_0, hx259_1⟩ := at_T30 (Kd.R_reads' HO_7.out).2.2 x8_1 p259 q259; obtain rfl : ad256 = ad259 := (by injection e259); replace p259 := eq_true p259; replace q259 := eq_true q259) | ((with_reducible refine gate_callee (f := 10) rfl ?_); refine goesL_ (some 56) rfl rfl Try.func10 (by kernel_rfl) rfl #[.int .i64 ((rd_T30 y253 x8_1).f1), .int .u64 a0, .int .u64 a1] rfl (by (try simp only [List.map_toArray, List.map_cons, List.map_nil]); first | done | rfl | (simp only [List.length_drop, List.length_take]; rfl)) ?_; (with_reducible refine (alu_Do.calls k1 ((rd_T30 y253 x8_1).f1) a0 a1 t260 t261 _ A11.out).mono ?_); rintro e w' ⟨rfl, ⟨nd, rfl⟩⟩; refine ⟨_, rfl, ?_⟩; have p262 : 0 ≤ (x8_1 : Int) := of_decide_eq_true (by first | (with_reducible assumption) | assumption); have q262 : x8_1 < (y253.length : Int) := of_decide_eq_true (by first | (with_reducible assumption) | assumption); obtain ⟨ad262, e262, hx262_0, hx262_1⟩ := at_T30 (Kd.R_reads' HO_7.out).2.2 x8_1 p262 q262; obtain rfl : ad256 = ad262 := (by injection e262); replace p262 := eq_true p262; replace q262 := eq_true q262) | ((with_reducible refine gate_callee (f := 10) rfl ?_); refine goesL_ (some 73) rfl rfl Try.func10 (by kernel_rfl) rfl #[.int .i64 ((rd_T30 y253 x8_1).f0), .int .u64 (Go.bits .xor .u64 a0 (IntKind.u64.wrap (a2 * 4294967296))), .int .u64 a1] rfl (by (try simp only [List.map_toArray, List.map_cons, List.map_nil]); first | done | rfl | (simp only [List.length_drop, List.length_take]; rfl)) ?_; (with_reducible refine (alu_Do.calls k1 ((rd_T30 y253 x8_1).f0) (Go.bits .xor .u64 a0 (IntKind.u64.wrap (a2 * 4294967296))) a1 t263 t264 _ A13.out).mono ?_); rintro e w' ⟨rfl, ⟨nd, rfl⟩⟩; refine ⟨_, rfl, ?_⟩))
                  go_roundg k1
                  case measure => have := HK1.out; omega
                  case rel => exact ⟨(wrap64 (x8_1 + 1)), (by first | rfl | (simp; done) | (simp [*]; done) | (exfalso; simp_all; done)), H', ⟨by have := HK1.out; omega⟩, ⟨by (with_reducible repeat (first | apply Kd.R_alloc | apply Kd.R_drewN | apply Kd.R_drew)); exact HO_7.out⟩, ⟨by repeat (first | (with_reducible first | exact HB.out | apply below_alloc | apply pw_below_drewN | apply below_drew1) | exact HB.out)⟩⟩
                · rw [if_neg c15] at H
                  have c15b0 : (t263 == t257) = false := beq_eq_false_iff_ne.mpr c15
                  have c15b1 : (t263 != t257) = true := bne_iff_ne.mpr c15
                  obtain rfl := Option.some.inj H
                  obtain ⟨Ao17, co17, eo17⟩ := Kd.R_slice HO_7.out
                  subst eo17
                  have p256 : 0 ≤ (x8_1 : Int) := of_decide_eq_true (by first | (with_reducible assumption) | assumption)
                  have q256 : x8_1 < (y253.length : Int) := of_decide_eq_true (by first | (with_reducible assumption) | assumption)
                  obtain ⟨ad256, e256, hx256_0, hx256_1⟩ := at_T30 (Kd.R_reads' HO_7.out).2.2 x8_1 p256 q256
                  cases e256
                  replace p256 := eq_true p256
                  replace q256 := eq_true q256
                  go_wp2_with (first | ((with_reducible refine gate_callee (f := 10) rfl ?_); refine goesL_ (some 45) rfl rfl Try.func10 (by kernel_rfl) rfl #[.int .i64 ((rd_T30 y253 x8_1).f0), .int .u64 a0, .int .u64 a1] rfl (by (try simp only [List.map_toArray, List.map_cons, List.map_nil]); first | done | rfl | (simp only [List.length_drop, List.length_take]; rfl)) ?_; (with_reducible refine (alu_Do.calls k1 ((rd_T30 y253 x8_1).f0) a0 a1 t257 t258 _ A10.out).mono ?_); rintro e w' ⟨rfl, ⟨nd, rfl⟩⟩; refine ⟨_, rfl, ?_⟩; have p259 : 0 ≤ (x8_1 : Int) := of_decide_eq_true (by first | (with_reducible assumption) | assumption); have q259 : x8_1 < (y253.length : Int) := of_decide_eq_true (by first | (with_reducible assumption) | assumption); obtain ⟨ad259, e259, hx259_0, hx259_1⟩ := at_T30 (Kd.R_reads' HO_7.out).2.2 x8_1 p259 q259; obtain rfl : ad256 = ad259 := (by injection e259); replace p259 := eq_true p259; replace q259 := eq_true q259) | ((with_reducible refine gate_callee (f := 10) rfl ?_); refine goesL_ (some 56) rfl rfl Try.func10 (by kernel_rfl) rfl #[.int .i64 ((rd_T30 y253 x8_1).f1), .int .u64 a0, .int .u64 a1] rfl (by (try simp only [List.map_toArray, List.map_cons, List.map_nil]); first | done | rfl | (simp only [List.length_drop, List.length_take]; rfl)) ?_; (with_reducible refine (alu_Do.calls k1 ((rd_T30 y253 x8_1).f1) a0 a1 t260 t261 _ A11.out).mono ?_); rintro e w' ⟨rfl, ⟨nd, rfl⟩⟩; refine ⟨_, rfl, ?_⟩; have p262 : 0 ≤ (x8_1 : Int) := of_decide_eq_true (by first | (with_reducible assumption) | assumption); have q262 : x8_1 < (y253.length : Int) := of_decide_eq_true (by first | (with_reducible assumption) | assumption); obtain ⟨ad262, e262, hx262_0, hx262_1⟩ := at_T30 (Kd.R_reads' HO_7.out).2.2 x8_1 p262 q262; obtain rfl : ad256 = ad262 := (by injection e262); replace p262 := eq_true p262; replace q262 := eq_true q262) | ((with_reducible refine gate_callee (f := 10) rfl ?_); refine goesL_ (some 73) rfl rfl Try.func10 (by kernel_rfl) rfl #[.int .i64 ((rd_T30 y253 x8_1).f0), .int .u64 (Go.bits .xor .u64 a0 (IntKind.u64.wrap (a2 * 4294967296))), .int .u64 a1] rfl (by (try simp only [List.map_toArray, List.map_cons, List.map_nil]); first | done | rfl | (simp only [List.length_drop, List.length_take]; rfl)) ?_; (with_reducible refine (alu_Do.calls k1 ((rd_T30 y253 x8_1).f0) (Go.bits .xor .u64 a0 (IntKind.u64.wrap (a2 * 4294967296))) a1 t263 t264 _ A13.out).mono ?_); rintro e w' ⟨rfl, ⟨nd, rfl⟩⟩; refine ⟨_, rfl, ?_⟩))
                  go_ret
                  exact ⟨by first | rfl | (simp [errW_none, errW_some] <;> rfl) | (simp [*, errW_none, errW_some] <;> rfl) | (exfalso; simp_all; done), by repeat (first | (with_reducible first | exact HB.out | apply below_alloc | apply pw_below_drewN | apply below_drew1) | exact HB.out)⟩
              · rw [if_neg c14] at H
                have c14b0 : decide (9 ≤ x8_1) = false := decide_eq_false c14
                clear c14
                have H' := Aside0.mk H
                clear H
                obtain ⟨Ao18, co18, eo18⟩ := Kd.R_slice HO_7.out
                subst eo18
                have p256 : 0 ≤ (x8_1 : Int) := of_decide_eq_true (by first | (with_reducible assumption) | assumption)
                have q256 : x8_1 < (y253.length : Int) := of_decide_eq_true (by first | (with_reducible assumption) | assumption)
                obtain ⟨ad256, e256, hx256_0, hx256_1⟩ := at_T30 (Kd.R_reads' HO_7.out).2.2 x8_1 p256 q256
                cases e256
                replace p256 := eq_true p256
                replace q256 := eq_true q256
                go_wp2_with (first | ((with_reducible refine gate_callee (f := 10) rfl ?_); refine goesL_ (some 45) rfl rfl Try.func10 (by kernel_rfl) rfl #[.int .i64 ((rd_T30 y253 x8_1).f0), .int .u64 a0, .int .u64 a1] rfl (by (try simp only [List.map_toArray, List.map_cons, List.map_nil]); first | done | rfl | (simp only [List.length_drop, List.length_take]; rfl)) ?_; (with_reducible refine (alu_Do.calls k1 ((rd_T30 y253 x8_1).f0) a0 a1 t257 t258 _ A10.out).mono ?_); rintro e w' ⟨rfl, ⟨nd, rfl⟩⟩; refine ⟨_, rfl, ?_⟩; have p259 : 0 ≤ (x8_1 : Int) := of_decide_eq_true (by first | (with_reducible assumption) | assumption); have q259 : x8_1 < (y253.length : Int) := of_decide_eq_true (by first | (with_reducible assumption) | assumption); obtain ⟨ad259, e259, hx259_0, hx259_1⟩ := at_T30 (Kd.R_reads' HO_7.out).2.2 x8_1 p259 q259; obtain rfl : ad256 = ad259 := (by injection e259); replace p259 := eq_true p259; replace q259 := eq_true q259) | ((with_reducible refine gate_callee (f := 10) rfl ?_); refine goesL_ (some 56) rfl rfl Try.func10 (by kernel_rfl) rfl #[.int .i64 ((rd_T30 y253 x8_1).f1), .int .u64 a0, .int .u64 a1] rfl (by (try simp only [List.map_toArray, List.map_cons, List.map_nil]); first | done | rfl | (simp only [List.length_drop, List.length_take]; rfl)) ?_; (with_reducible refine (alu_Do.calls k1 ((rd_T30 y253 x8_1).f1) a0 a1 t260 t261 _ A11.out).mono ?_); rintro e w' ⟨rfl, ⟨nd, rfl⟩⟩; refine ⟨_, rfl, ?_⟩; have p262 : 0 ≤ (x8_1 : Int) := of_decide_eq_true (by first | (with_reducible assumption) | assumption); have q262 : x8_1 < (y253.length : Int) := of_decide_eq_true (by first | (with_reducible assumption) | assumption); obtain ⟨ad262, e262, hx262_0, hx262_1⟩ := at_T30 (Kd.R_reads' HO_7.out).2.2 x8_1 p262 q262; obtain rfl : ad256 = ad262 := (by injection e262); replace p262 := eq_true p262; replace q262 := eq_true q262) | ((with_reducible refine gate_callee (f := 10) rfl ?_); refine goesL_ (some 73) rfl rfl Try.func10 (by kernel_rfl) rfl #[.int .i64 ((rd_T30 y253 x8_1).f0), .int .u64 (Go.bits .xor .u64 a0 (IntKind.u64.wrap (a2 * 4294967296))), .int .u64 a1] rfl (by (try simp only [List.map_toArray, List.map_cons, List.map_nil]); first | done | rfl | (simp only [List.length_drop, List.length_take]; rfl)) ?_; (with_reducible refine (alu_Do.calls k1 ((rd_T30 y253 x8_1).f0) (Go.bits .xor .u64 a0 (IntKind.u64.wrap (a2 * 4294967296))) a1 t263 t264 _ A13.out).mono ?_); rintro e w' ⟨rfl, ⟨nd, rfl⟩⟩; refine ⟨_, rfl, ?_⟩))
                go_roundg k1
                case measure => have := HK1.out; omega
                case rel => exact ⟨(wrap64 (x8_1 + 1)), (by first | rfl | (simp; done) | (simp [*]; done) | (exfalso; simp_all; done)), H', ⟨by have := HK1.out; omega⟩, ⟨by (with_reducible repeat (first | apply Kd.R_alloc | apply Kd.R_drewN | apply Kd.R_drew)); exact HO_7.out⟩, ⟨by repeat (first | (with_reducible first | exact HB.out | apply below_alloc | apply pw_below_drewN | apply below_drew1) | exact HB.out)⟩⟩
            · rw [if_neg c12] at H
              have c12b0 : (t257 == t260) = false := beq_eq_false_iff_ne.mpr c12
              have c12b1 : (t257 != t260) = true := bne_iff_ne.mpr c12
              obtain rfl := Option.some.inj H
              obtain ⟨Ao19, co19, eo19⟩ := Kd.R_slice HO_7.out
              subst eo19
              have p256 : 0 ≤ (x8_1 : Int) := of_decide_eq_true (by first | (with_reducible assumption) | assumption)
              have q256 : x8_1 < (y253.length : Int) := of_decide_eq_true (by first | (with_reducible assumption) | assumption)
              obtain ⟨ad256, e256, hx256_0, hx256_1⟩ := at_T30 (Kd.R_reads' HO_7.out).2.2 x8_1 p256 q256
              cases e256
              replace p256 := eq_true p256
              replace q256 := eq_true q256
              go_wp2_with (first | ((with_reducible refine gate_callee (f := 10) rfl ?_); refine goesL_ (some 45) rfl rfl Try.func10 (by kernel_rfl) rfl #[.int .i64 ((rd_T30 y253 x8_1).f0), .int .u64 a0, .int .u64 a1] rfl (by (try simp only [List.map_toArray, List.map_cons, List.map_nil]); first | done | rfl | (simp only [List.length_drop, List.length_take]; rfl)) ?_; (with_reducible refine (alu_Do.calls k1 ((rd_T30 y253 x8_1).f0) a0 a1 t257 t258 _ A10.out).mono ?_); rintro e w' ⟨rfl, ⟨nd, rfl⟩⟩; refine ⟨_, rfl, ?_⟩; have p259 : 0 ≤ (x8_1 : Int) := of_decide_eq_true (by first | (with_reducible assumption) | assumption); have q259 : x8_1 < (y253.length : Int) := of_decide_eq_true (by first | (with_reducible assumption) | assumption); obtain ⟨ad259, e259, hx259_0, hx259_1⟩ := at_T30 (Kd.R_reads' HO_7.out).2.2 x8_1 p259 q259; obtain rfl : ad256 = ad259 := (by injection e259); replace p259 := eq_true p259; replace q259 := eq_true q259) | ((with_reducible refine gate_callee (f := 10) rfl ?_); refine goesL_ (some 56) rfl rfl Try.func10 (by kernel_rfl) rfl #[.int .i64 ((rd_T30 y253 x8_1).f1), .int .u64 a0, .int .u64 a1] rfl (by (try simp only [List.map_toArray, List.map_cons, List.map_nil]); first | done | rfl | (simp only [List.length_drop, List.length_take]; rfl)) ?_; (with_reducible refine (alu_Do.calls k1 ((rd_T30 y253 x8_1).f1) a0 a1 t260 t261 _ A11.out).mono ?_); rintro e w' ⟨rfl, ⟨nd, rfl⟩⟩; refine ⟨_, rfl, ?_⟩))
              go_ret
              exact ⟨by first | rfl | (simp [errW_none, errW_some] <;> rfl) | (simp [*, errW_none, errW_some] <;> rfl) | (exfalso; simp_all; done), by repeat (first | (with_reducible first | exact HB.out | apply below_alloc | apply pw_below_drewN | apply below_drew1) | exact HB.out)⟩
          · rw [if_neg c9] at H
            exact absurd H (by simp)
        · rw [if_neg c8] at H
          have c8b0 : decide (x8_1 < (y253.length : Int)) = false := decide_eq_false c8
          clear c8
          obtain rfl := Option.some.inj H
          obtain ⟨Ao20, co20, eo20⟩ := Kd.R_slice HO_7.out
          subst eo20
          go_wp2
          go_ret
          exact ⟨by first | rfl | (simp [errW_none, errW_some] <;> rfl) | (simp [*, errW_none, errW_some] <;> rfl) | (exfalso; simp_all; done), by repeat (first | (with_reducible first | exact HB.out | apply below_alloc | apply pw_below_drewN | apply below_drew1) | exact HB.out)⟩
  · replace c5 := Bool.eq_false_iff.mpr c5
    subst c5
    have H1 : (some false) = some r := by rw [if_neg (show ¬ (false = true) by decide)] at H; exact H
    clear H
    have H := H1
    clear H1
    obtain rfl := Option.some.inj H
    go_enter Try.func8, Try.ntmps8
    go_wp2_with (first | ((with_reducible refine gate_callee (f := 9) rfl ?_); refine goesL_ (some 15) rfl rfl Try.func9 (by kernel_rfl) rfl #[] rfl (by (try simp only [List.map_toArray, List.map_cons, List.map_nil]); first | done | rfl | (simp only [List.length_drop, List.length_take]; rfl)) ?_; (with_reducible refine (vireolaw05_awake.calls k  false _ A4.out).mono ?_); rintro e w' ⟨rfl, ⟨nd, rfl⟩⟩; refine ⟨_, rfl, ?_⟩))
    go_ret
    exact ⟨by first | rfl | (simp [errW_none, errW_some] <;> rfl) | (simp [*, errW_none, errW_some] <;> rfl) | (exfalso; simp_all; done), by repeat (first | (with_reducible first | exact HB.out | apply below_alloc | apply pw_below_drewN | apply below_drew1) | exact HB.out)⟩

/-- THE ONE PURE STATEMENT of vireolaw05_AluNumbers: yours. -/
def vireolaw05_AluNumbers.Pure : Prop := ∀ (a0 : Int) (a1 : Int) (a2 : Int), (Lit.int .u64 a0).wf = true → (Lit.int .u64 a1).wf = true → (Lit.int .u64 a2).wf = true → ∃ k, vireolaw05_AluNumbers.f k a0 a1 a2 = some true
theorem vireolaw05_AluNumbers.walk (P : vireolaw05_AluNumbers.Pure) (a0 : Int) (a1 : Int) (a2 : Int) (w : World) (w0 : (Lit.int .u64 a0).wf = true) (w1 : (Lit.int .u64 a1).wf = true) (w2 : (Lit.int .u64 a2).wf = true) :
    Calls Try.prog 8 #[.int .u64 a0, .int .u64 a1, .int .u64 a2] w fun e w' => e = .returned (.bool true) ∧ Below w.heap.size w w' := by
  obtain ⟨k, h⟩ := P a0 a1 a2 w0 w1 w2
  refine (vireolaw05_AluNumbers.calls k a0 a1 a2 true w h).mono ?_
  rintro e w' ⟨rfl, hd⟩
  exact ⟨rfl, hd⟩

end Go.Proofs.Ytijckgnhkmgpnaa.PAll
