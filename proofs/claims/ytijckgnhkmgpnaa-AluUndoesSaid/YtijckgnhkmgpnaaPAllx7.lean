-- Laid by this seat's own program (wip/tools/pp.sh, a turned copy of the kit's print). Lean checks it.
import Derived.Test.YtijckgnhkmgpnaaPAllx0
import Derived.Test.YtijckgnhkmgpnaaPAllx4
namespace Go.Proofs.Ytijckgnhkmgpnaa.PAll
open Go.RowKit Go.Proofs.YtijckgnhkmgpnaaW.PrintWords Go.Proofs.YtijckgnhkmgpnaaW.PrintLast Go.Proofs.YtijckgnhkmgpnaaW.PrintMore
attribute [local go_sem] max2_int min2_int max_two min_two max_three min_three max_four min_four   -- for this text's walks alone
set_option linter.unusedVariables false
set_option linter.unusedSimpArgs false

/-! ### vireoref05_Taken: function 13 -/
def vireoref05_Taken.f (k : Nat) (a0 : Int) (a1 : Int) (a2 : Int) : Option (Bool) := if a0 = 5 then (if a1 = a2 then (some true) else (if a0 = 6 then (some true) else (if a0 = 7 then ((vireoref05_Less.f k a1 a2).bind fun t212 => (if t212 = true then (some true) else (if a0 = 8 then ((vireoref05_Less.f k a1 a2).bind fun t213 => (if t213 = true then (if a0 = 9 then (if a1 < a2 then (some true) else (if a0 = 10 then (some (decide (a1 ≥ a2))) else (some false))) else (if a0 = 10 then (some (decide (a1 ≥ a2))) else (some false))) else (some true))) else (if a0 = 9 then (if a1 < a2 then (some true) else (if a0 = 10 then (some (decide (a1 ≥ a2))) else (some false))) else (if a0 = 10 then (some (decide (a1 ≥ a2))) else (some false)))))) else (if a0 = 8 then ((vireoref05_Less.f k a1 a2).bind fun t214 => (if t214 = true then (if a0 = 9 then (if a1 < a2 then (some true) else (if a0 = 10 then (some (decide (a1 ≥ a2))) else (some false))) else (if a0 = 10 then (some (decide (a1 ≥ a2))) else (some false))) else (some true))) else (if a0 = 9 then (if a1 < a2 then (some true) else (if a0 = 10 then (some (decide (a1 ≥ a2))) else (some false))) else (if a0 = 10 then (some (decide (a1 ≥ a2))) else (some false))))))) else (if a0 = 6 then (if a1 = a2 then (if a0 = 7 then ((vireoref05_Less.f k a1 a2).bind fun t215 => (if t215 = true then (some true) else (if a0 = 8 then ((vireoref05_Less.f k a1 a2).bind fun t216 => (if t216 = true then (if a0 = 9 then (if a1 < a2 then (some true) else (if a0 = 10 then (some (decide (a1 ≥ a2))) else (some false))) else (if a0 = 10 then (some (decide (a1 ≥ a2))) else (some false))) else (some true))) else (if a0 = 9 then (if a1 < a2 then (some true) else (if a0 = 10 then (some (decide (a1 ≥ a2))) else (some false))) else (if a0 = 10 then (some (decide (a1 ≥ a2))) else (some false)))))) else (if a0 = 8 then ((vireoref05_Less.f k a1 a2).bind fun t217 => (if t217 = true then (if a0 = 9 then (if a1 < a2 then (some true) else (if a0 = 10 then (some (decide (a1 ≥ a2))) else (some false))) else (if a0 = 10 then (some (decide (a1 ≥ a2))) else (some false))) else (some true))) else (if a0 = 9 then (if a1 < a2 then (some true) else (if a0 = 10 then (some (decide (a1 ≥ a2))) else (some false))) else (if a0 = 10 then (some (decide (a1 ≥ a2))) else (some false))))) else (some true)) else (if a0 = 7 then ((vireoref05_Less.f k a1 a2).bind fun t218 => (if t218 = true then (some true) else (if a0 = 8 then ((vireoref05_Less.f k a1 a2).bind fun t219 => (if t219 = true then (if a0 = 9 then (if a1 < a2 then (some true) else (if a0 = 10 then (some (decide (a1 ≥ a2))) else (some false))) else (if a0 = 10 then (some (decide (a1 ≥ a2))) else (some false))) else (some true))) else (if a0 = 9 then (if a1 < a2 then (some true) else (if a0 = 10 then (some (decide (a1 ≥ a2))) else (some false))) else (if a0 = 10 then (some (decide (a1 ≥ a2))) else (some false)))))) else (if a0 = 8 then ((vireoref05_Less.f k a1 a2).bind fun t220 => (if t220 = true then (if a0 = 9 then (if a1 < a2 then (some true) else (if a0 = 10 then (some (decide (a1 ≥ a2))) else (some false))) else (if a0 = 10 then (some (decide (a1 ≥ a2))) else (some false))) else (some true))) else (if a0 = 9 then (if a1 < a2 then (some true) else (if a0 = 10 then (some (decide (a1 ≥ a2))) else (some false))) else (if a0 = 10 then (some (decide (a1 ≥ a2))) else (some false))))))
theorem vireoref05_Taken.mono : ∀ a0 a1 a2 k, LeO (vireoref05_Taken.f k a0 a1 a2) (vireoref05_Taken.f (k + 1) a0 a1 a2) := by
  intro a0 a1 a2 k
  unfold vireoref05_Taken.f
  repeat' first
      | (with_reducible exact vireoref05_Less.mono _ _ _)
      | (with_reducible exact LeO.refl _)
      | (with_reducible exact LeO.none _)
      | (with_reducible refine LeO.ite ?_ ?_)
      | (with_reducible refine LeO.bind ?_ (fun _ => ?_))
      | exact vireoref05_Less.mono _ _ _
      | exact LeO.none _
      | refine LeO.ite ?_ ?_
      | refine LeO.bind ?_ (fun _ => ?_)
set_option maxHeartbeats 8000000 in
set_option maxRecDepth 100000 in
theorem vireoref05_Taken.calls (k : Nat) (a0 : Int) (a1 : Int) (a2 : Int) (r : Bool) (w : World) (h : vireoref05_Taken.f k a0 a1 a2 = some r) :
    Calls Try.prog 13 #[.int .i64 a0, .int .u64 a1, .int .u64 a2] w fun e w' => e = .returned (.bool r) ∧ Below w.heap.size w w' := by
  have HB := Aside0.mk (Below.refl w.heap.size w)
  have H : (if a0 = 5 then (if a1 = a2 then (some true) else (if a0 = 6 then (some true) else (if a0 = 7 then ((vireoref05_Less.f k a1 a2).bind fun t212 => (if t212 = true then (some true) else (if a0 = 8 then ((vireoref05_Less.f k a1 a2).bind fun t213 => (if t213 = true then (if a0 = 9 then (if a1 < a2 then (some true) else (if a0 = 10 then (some (decide (a1 ≥ a2))) else (some false))) else (if a0 = 10 then (some (decide (a1 ≥ a2))) else (some false))) else (some true))) else (if a0 = 9 then (if a1 < a2 then (some true) else (if a0 = 10 then (some (decide (a1 ≥ a2))) else (some false))) else (if a0 = 10 then (some (decide (a1 ≥ a2))) else (some false)))))) else (if a0 = 8 then ((vireoref05_Less.f k a1 a2).bind fun t214 => (if t214 = true then (if a0 = 9 then (if a1 < a2 then (some true) else (if a0 = 10 then (some (decide (a1 ≥ a2))) else (some false))) else (if a0 = 10 then (some (decide (a1 ≥ a2))) else (some false))) else (some true))) else (if a0 = 9 then (if a1 < a2 then (some true) else (if a0 = 10 then (some (decide (a1 ≥ a2))) else (some false))) else (if a0 = 10 then (some (decide (a1 ≥ a2))) else (some false))))))) else (if a0 = 6 then (if a1 = a2 then (if a0 = 7 then ((vireoref05_Less.f k a1 a2).bind fun t215 => (if t215 = true then (some true) else (if a0 = 8 then ((vireoref05_Less.f k a1 a2).bind fun t216 => (if t216 = true then (if a0 = 9 then (if a1 < a2 then (some true) else (if a0 = 10 then (some (decide (a1 ≥ a2))) else (some false))) else (if a0 = 10 then (some (decide (a1 ≥ a2))) else (some false))) else (some true))) else (if a0 = 9 then (if a1 < a2 then (some true) else (if a0 = 10 then (some (decide (a1 ≥ a2))) else (some false))) else (if a0 = 10 then (some (decide (a1 ≥ a2))) else (some false)))))) else (if a0 = 8 then ((vireoref05_Less.f k a1 a2).bind fun t217 => (if t217 = true then (if a0 = 9 then (if a1 < a2 then (some true) else (if a0 = 10 then (some (decide (a1 ≥ a2))) else (some false))) else (if a0 = 10 then (some (decide (a1 ≥ a2))) else (some false))) else (some true))) else (if a0 = 9 then (if a1 < a2 then (some true) else (if a0 = 10 then (some (decide (a1 ≥ a2))) else (some false))) else (if a0 = 10 then (some (decide (a1 ≥ a2))) else (some false))))) else (some true)) else (if a0 = 7 then ((vireoref05_Less.f k a1 a2).bind fun t218 => (if t218 = true then (some true) else (if a0 = 8 then ((vireoref05_Less.f k a1 a2).bind fun t219 => (if t219 = true then (if a0 = 9 then (if a1 < a2 then (some true) else (if a0 = 10 then (some (decide (a1 ≥ a2))) else (some false))) else (if a0 = 10 then (some (decide (a1 ≥ a2))) else (some false))) else (some true))) else (if a0 = 9 then (if a1 < a2 then (some true) else (if a0 = 10 then (some (decide (a1 ≥ a2))) else (some false))) else (if a0 = 10 then (some (decide (a1 ≥ a2))) else (some false)))))) else (if a0 = 8 then ((vireoref05_Less.f k a1 a2).bind fun t220 => (if t220 = true then (if a0 = 9 then (if a1 < a2 then (some true) else (if a0 = 10 then (some (decide (a1 ≥ a2))) else (some false))) else (if a0 = 10 then (some (decide (a1 ≥ a2))) else (some false))) else (some true))) else (if a0 = 9 then (if a1 < a2 then (some true) else (if a0 = 10 then (some (decide (a1 ≥ a2))) else (some false))) else (if a0 = 10 then (some (decide (a1 ≥ a2))) else (some false))))))) = some r := h
  clear h
  by_cases c4 : a0 = 5
  · rw [if_pos c4] at H
    have c4b0 : (a0 == 5) = true := beq_iff_eq.mpr c4
    have c4b1 : (a0 != 5) = false := bne_eq_false_iff_eq.mpr c4
    clear c4
    by_cases c5 : a1 = a2
    · rw [if_pos c5] at H
      have c5b0 : (a1 == a2) = true := beq_iff_eq.mpr c5
      have c5b1 : (a1 != a2) = false := bne_eq_false_iff_eq.mpr c5
      clear c5
      obtain rfl := Option.some.inj H
      go_enter Try.func13, Try.ntmps13
      go_wp2
      go_ret
      exact ⟨by first | rfl | (simp [errW_none, errW_some] <;> rfl) | (simp [*, errW_none, errW_some] <;> rfl) | (exfalso; simp_all; done), by repeat (first | (with_reducible first | exact HB.out | apply below_alloc | apply pw_below_drewN | apply below_drew1) | exact HB.out)⟩
    · rw [if_neg c5] at H
      have c5b0 : (a1 == a2) = false := beq_eq_false_iff_ne.mpr c5
      have c5b1 : (a1 != a2) = true := bne_iff_ne.mpr c5
      by_cases c6 : a0 = 6
      · rw [if_pos c6] at H
        have c6b0 : (a0 == 6) = true := beq_iff_eq.mpr c6
        have c6b1 : (a0 != 6) = false := bne_eq_false_iff_eq.mpr c6
        clear c6
        obtain rfl := Option.some.inj H
        go_enter Try.func13, Try.ntmps13
        go_wp2
        go_ret
        exact ⟨by first | rfl | (simp [errW_none, errW_some] <;> rfl) | (simp [*, errW_none, errW_some] <;> rfl) | (exfalso; simp_all; done), by repeat (first | (with_reducible first | exact HB.out | apply below_alloc | apply pw_below_drewN | apply below_drew1) | exact HB.out)⟩
      · rw [if_neg c6] at H
        have c6b0 : (a0 == 6) = false := beq_eq_false_iff_ne.mpr c6
        have c6b1 : (a0 != 6) = true := bne_iff_ne.mpr c6
        by_cases c7 : a0 = 7
        · rw [if_pos c7] at H
          have c7b0 : (a0 == 7) = true := beq_iff_eq.mpr c7
          have c7b1 : (a0 != 7) = false := bne_eq_false_iff_eq.mpr c7
          clear c7
          replace H := Option.bind_eq_some_iff.mp H
          obtain ⟨t212, A80, H⟩ := H
          replace H : (if t212 = true then (some true) else (if a0 = 8 then ((vireoref05_Less.f k a1 a2).bind fun t213 => (if t213 = true then (if a0 = 9 then (if a1 < a2 then (some true) else (if a0 = 10 then (some (decide (a1 ≥ a2))) else (some false))) else (if a0 = 10 then (some (decide (a1 ≥ a2))) else (some false))) else (some true))) else (if a0 = 9 then (if a1 < a2 then (some true) else (if a0 = 10 then (some (decide (a1 ≥ a2))) else (some false))) else (if a0 = 10 then (some (decide (a1 ≥ a2))) else (some false))))) = some r := H
          have A8 := Aside0.mk A80
          clear A80
          by_cases c9 : t212 = true
          · subst c9
            have H1 : (some true) = some r := by rw [if_pos rfl] at H; exact H
            clear H
            have H := H1
            clear H1
            obtain rfl := Option.some.inj H
            go_enter Try.func13, Try.ntmps13
            go_wp2_with (first | (go_at_call 22; (with_reducible refine (vireoref05_Less.calls k a1 a2 true _ A8.out).mono ?_); rintro e w10 ⟨rfl, hb⟩; have n0_ := Aside0.mk (below_step (by repeat (first | (with_reducible first | exact HB.out | apply below_alloc | apply pw_below_drewN | apply below_drew1) | exact HB.out)) hb); clear HB; have HB := n0_; clear n0_; (try clear hb); (try clear hb2); (try clear hk); (try clear hi)))
            go_ret
            exact ⟨by first | rfl | (simp [errW_none, errW_some] <;> rfl) | (simp [*, errW_none, errW_some] <;> rfl) | (exfalso; simp_all; done), by repeat (first | (with_reducible first | exact HB.out | apply below_alloc | apply pw_below_drewN | apply below_drew1) | exact HB.out)⟩
          · replace c9 := Bool.eq_false_iff.mpr c9
            subst c9
            have H1 : (if a0 = 8 then ((vireoref05_Less.f k a1 a2).bind fun t213 => (if t213 = true then (if a0 = 9 then (if a1 < a2 then (some true) else (if a0 = 10 then (some (decide (a1 ≥ a2))) else (some false))) else (if a0 = 10 then (some (decide (a1 ≥ a2))) else (some false))) else (some true))) else (if a0 = 9 then (if a1 < a2 then (some true) else (if a0 = 10 then (some (decide (a1 ≥ a2))) else (some false))) else (if a0 = 10 then (some (decide (a1 ≥ a2))) else (some false)))) = some r := by rw [if_neg (show ¬ (false = true) by decide)] at H; exact H
            clear H
            have H := H1
            clear H1
            by_cases c11 : a0 = 8
            · rw [if_pos c11] at H
              have c11b0 : (a0 == 8) = true := beq_iff_eq.mpr c11
              have c11b1 : (a0 != 8) = false := bne_eq_false_iff_eq.mpr c11
              clear c11
              replace H := Option.bind_eq_some_iff.mp H
              obtain ⟨t213, A120, H⟩ := H
              replace H : (if t213 = true then (if a0 = 9 then (if a1 < a2 then (some true) else (if a0 = 10 then (some (decide (a1 ≥ a2))) else (some false))) else (if a0 = 10 then (some (decide (a1 ≥ a2))) else (some false))) else (some true)) = some r := H
              have A12 := Aside0.mk A120
              clear A120
              by_cases c13 : t213 = true
              · subst c13
                have H1 : (if a0 = 9 then (if a1 < a2 then (some true) else (if a0 = 10 then (some (decide (a1 ≥ a2))) else (some false))) else (if a0 = 10 then (some (decide (a1 ≥ a2))) else (some false))) = some r := by rw [if_pos rfl] at H; exact H
                clear H
                have H := H1
                clear H1
                by_cases c14 : a0 = 9
                · rw [if_pos c14] at H
                  have c14b0 : (a0 == 9) = true := beq_iff_eq.mpr c14
                  have c14b1 : (a0 != 9) = false := bne_eq_false_iff_eq.mpr c14
                  clear c14
                  by_cases c15 : a1 < a2
                  · rw [if_pos c15] at H
                    have c15b0 : decide (a1 < a2) = true := decide_eq_true c15
                    clear c15
                    obtain rfl := Option.some.inj H
                    go_enter Try.func13, Try.ntmps13
                    go_wp2_with (first | (go_at_call 22; (with_reducible refine (vireoref05_Less.calls k a1 a2 false _ A8.out).mono ?_); rintro e w16 ⟨rfl, hb⟩; have n0_ := Aside0.mk (below_step (by repeat (first | (with_reducible first | exact HB.out | apply below_alloc | apply pw_below_drewN | apply below_drew1) | exact HB.out)) hb); clear HB; have HB := n0_; clear n0_; (try clear hb); (try clear hb2); (try clear hk); (try clear hi)) | (go_at_call 22; (with_reducible refine (vireoref05_Less.calls k a1 a2 true _ A12.out).mono ?_); rintro e w17 ⟨rfl, hb⟩; have n0_ := Aside0.mk (below_step (by repeat (first | (with_reducible first | exact HB.out | apply below_alloc | apply pw_below_drewN | apply below_drew1) | exact HB.out)) hb); clear HB; have HB := n0_; clear n0_; (try clear hb); (try clear hb2); (try clear hk); (try clear hi)))
                    go_ret
                    exact ⟨by first | rfl | (simp [errW_none, errW_some] <;> rfl) | (simp [*, errW_none, errW_some] <;> rfl) | (exfalso; simp_all; done), by repeat (first | (with_reducible first | exact HB.out | apply below_alloc | apply pw_below_drewN | apply below_drew1) | exact HB.out)⟩
                  · rw [if_neg c15] at H
                    have c15b0 : decide (a1 < a2) = false := decide_eq_false c15
                    clear c15
                    by_cases c18 : a0 = 10
                    · rw [if_pos c18] at H
                      have c18b0 : (a0 == 10) = true := beq_iff_eq.mpr c18
                      have c18b1 : (a0 != 10) = false := bne_eq_false_iff_eq.mpr c18
                      clear c18
                      obtain rfl := Option.some.inj H
                      go_enter Try.func13, Try.ntmps13
                      go_wp2_with (first | (go_at_call 22; (with_reducible refine (vireoref05_Less.calls k a1 a2 false _ A8.out).mono ?_); rintro e w19 ⟨rfl, hb⟩; have n0_ := Aside0.mk (below_step (by repeat (first | (with_reducible first | exact HB.out | apply below_alloc | apply pw_below_drewN | apply below_drew1) | exact HB.out)) hb); clear HB; have HB := n0_; clear n0_; (try clear hb); (try clear hb2); (try clear hk); (try clear hi)) | (go_at_call 22; (with_reducible refine (vireoref05_Less.calls k a1 a2 true _ A12.out).mono ?_); rintro e w20 ⟨rfl, hb⟩; have n0_ := Aside0.mk (below_step (by repeat (first | (with_reducible first | exact HB.out | apply below_alloc | apply pw_below_drewN | apply below_drew1) | exact HB.out)) hb); clear HB; have HB := n0_; clear n0_; (try clear hb); (try clear hb2); (try clear hk); (try clear hi)))
                      go_ret
                      exact ⟨by first | rfl | (simp [errW_none, errW_some] <;> rfl) | (simp [*, errW_none, errW_some] <;> rfl) | (exfalso; simp_all; done), by repeat (first | (with_reducible first | exact HB.out | apply below_alloc | apply pw_below_drewN | apply below_drew1) | exact HB.out)⟩
                    · rw [if_neg c18] at H
                      have c18b0 : (a0 == 10) = false := beq_eq_false_iff_ne.mpr c18
                      have c18b1 : (a0 != 10) = true := bne_iff_ne.mpr c18
                      obtain rfl := Option.some.inj H
                      go_enter Try.func13, Try.ntmps13
                      go_wp2_with (first | (go_at_call 22; (with_reducible refine (vireoref05_Less.calls k a1 a2 false _ A8.out).mono ?_); rintro e w21 ⟨rfl, hb⟩; have n0_ := Aside0.mk (below_step (by repeat (first | (with_reducible first | exact HB.out | apply below_alloc | apply pw_below_drewN | apply below_drew1) | exact HB.out)) hb); clear HB; have HB := n0_; clear n0_; (try clear hb); (try clear hb2); (try clear hk); (try clear hi)) | (go_at_call 22; (with_reducible refine (vireoref05_Less.calls k a1 a2 true _ A12.out).mono ?_); rintro e w22 ⟨rfl, hb⟩; have n0_ := Aside0.mk (below_step (by repeat (first | (with_reducible first | exact HB.out | apply below_alloc | apply pw_below_drewN | apply below_drew1) | exact HB.out)) hb); clear HB; have HB := n0_; clear n0_; (try clear hb); (try clear hb2); (try clear hk); (try clear hi)))
                      go_ret
                      exact ⟨by first | rfl | (simp [errW_none, errW_some] <;> rfl) | (simp [*, errW_none, errW_some] <;> rfl) | (exfalso; simp_all; done), by repeat (first | (with_reducible first | exact HB.out | apply below_alloc | apply pw_below_drewN | apply below_drew1) | exact HB.out)⟩
                · rw [if_neg c14] at H
                  have c14b0 : (a0 == 9) = false := beq_eq_false_iff_ne.mpr c14
                  have c14b1 : (a0 != 9) = true := bne_iff_ne.mpr c14
                  by_cases c23 : a0 = 10
                  · rw [if_pos c23] at H
                    have c23b0 : (a0 == 10) = true := beq_iff_eq.mpr c23
                    have c23b1 : (a0 != 10) = false := bne_eq_false_iff_eq.mpr c23
                    clear c23
                    obtain rfl := Option.some.inj H
                    go_enter Try.func13, Try.ntmps13
                    go_wp2_with (first | (go_at_call 22; (with_reducible refine (vireoref05_Less.calls k a1 a2 false _ A8.out).mono ?_); rintro e w24 ⟨rfl, hb⟩; have n0_ := Aside0.mk (below_step (by repeat (first | (with_reducible first | exact HB.out | apply below_alloc | apply pw_below_drewN | apply below_drew1) | exact HB.out)) hb); clear HB; have HB := n0_; clear n0_; (try clear hb); (try clear hb2); (try clear hk); (try clear hi)) | (go_at_call 22; (with_reducible refine (vireoref05_Less.calls k a1 a2 true _ A12.out).mono ?_); rintro e w25 ⟨rfl, hb⟩; have n0_ := Aside0.mk (below_step (by repeat (first | (with_reducible first | exact HB.out | apply below_alloc | apply pw_below_drewN | apply below_drew1) | exact HB.out)) hb); clear HB; have HB := n0_; clear n0_; (try clear hb); (try clear hb2); (try clear hk); (try clear hi)))
                    go_ret
                    exact ⟨by first | rfl | (simp [errW_none, errW_some] <;> rfl) | (simp [*, errW_none, errW_some] <;> rfl) | (exfalso; simp_all; done), by repeat (first | (with_reducible first | exact HB.out | apply below_alloc | apply pw_below_drewN | apply below_drew1) | exact HB.out)⟩
                  · rw [if_neg c23] at H
                    have c23b0 : (a0 == 10) = false := beq_eq_false_iff_ne.mpr c23
                    have c23b1 : (a0 != 10) = true := bne_iff_ne.mpr c23
                    obtain rfl := Option.some.inj H
                    go_enter Try.func13, Try.ntmps13
                    go_wp2_with (first | (go_at_call 22; (with_reducible refine (vireoref05_Less.calls k a1 a2 false _ A8.out).mono ?_); rintro e w26 ⟨rfl, hb⟩; have n0_ := Aside0.mk (below_step (by repeat (first | (with_reducible first | exact HB.out | apply below_alloc | apply pw_below_drewN | apply below_drew1) | exact HB.out)) hb); clear HB; have HB := n0_; clear n0_; (try clear hb); (try clear hb2); (try clear hk); (try clear hi)) | (go_at_call 22; (with_reducible refine (vireoref05_Less.calls k a1 a2 true _ A12.out).mono ?_); rintro e w27 ⟨rfl, hb⟩; have n0_ := Aside0.mk (below_step (by repeat (first | (with_reducible first | exact HB.out | apply below_alloc | apply pw_below_drewN | apply below_drew1) | exact HB.out)) hb); clear HB; have HB := n0_; clear n0_; (try clear hb); (try clear hb2); (try clear hk); (try clear hi)))
                    go_ret
                    exact ⟨by first | rfl | (simp [errW_none, errW_some] <;> rfl) | (simp [*, errW_none, errW_some] <;> rfl) | (exfalso; simp_all; done), by repeat (first | (with_reducible first | exact HB.out | apply below_alloc | apply pw_below_drewN | apply below_drew1) | exact HB.out)⟩
              · replace c13 := Bool.eq_false_iff.mpr c13
                subst c13
                have H1 : (some true) = some r := by rw [if_neg (show ¬ (false = true) by decide)] at H; exact H
                clear H
                have H := H1
                clear H1
                obtain rfl := Option.some.inj H
                go_enter Try.func13, Try.ntmps13
                go_wp2_with (first | (go_at_call 22; (with_reducible refine (vireoref05_Less.calls k a1 a2 false _ A8.out).mono ?_); rintro e w28 ⟨rfl, hb⟩; have n0_ := Aside0.mk (below_step (by repeat (first | (with_reducible first | exact HB.out | apply below_alloc | apply pw_below_drewN | apply below_drew1) | exact HB.out)) hb); clear HB; have HB := n0_; clear n0_; (try clear hb); (try clear hb2); (try clear hk); (try clear hi)) | (go_at_call 22; (with_reducible refine (vireoref05_Less.calls k a1 a2 false _ A12.out).mono ?_); rintro e w29 ⟨rfl, hb⟩; have n0_ := Aside0.mk (below_step (by repeat (first | (with_reducible first | exact HB.out | apply below_alloc | apply pw_below_drewN | apply below_drew1) | exact HB.out)) hb); clear HB; have HB := n0_; clear n0_; (try clear hb); (try clear hb2); (try clear hk); (try clear hi)))
                go_ret
                exact ⟨by first | rfl | (simp [errW_none, errW_some] <;> rfl) | (simp [*, errW_none, errW_some] <;> rfl) | (exfalso; simp_all; done), by repeat (first | (with_reducible first | exact HB.out | apply below_alloc | apply pw_below_drewN | apply below_drew1) | exact HB.out)⟩
            · rw [if_neg c11] at H
              have c11b0 : (a0 == 8) = false := beq_eq_false_iff_ne.mpr c11
              have c11b1 : (a0 != 8) = true := bne_iff_ne.mpr c11
              by_cases c30 : a0 = 9
              · rw [if_pos c30] at H
                have c30b0 : (a0 == 9) = true := beq_iff_eq.mpr c30
                have c30b1 : (a0 != 9) = false := bne_eq_false_iff_eq.mpr c30
                clear c30
                by_cases c31 : a1 < a2
                · rw [if_pos c31] at H
                  have c31b0 : decide (a1 < a2) = true := decide_eq_true c31
                  clear c31
                  obtain rfl := Option.some.inj H
                  go_enter Try.func13, Try.ntmps13
                  go_wp2_with (first | (go_at_call 22; (with_reducible refine (vireoref05_Less.calls k a1 a2 false _ A8.out).mono ?_); rintro e w32 ⟨rfl, hb⟩; have n0_ := Aside0.mk (below_step (by repeat (first | (with_reducible first | exact HB.out | apply below_alloc | apply pw_below_drewN | apply below_drew1) | exact HB.out)) hb); clear HB; have HB := n0_; clear n0_; (try clear hb); (try clear hb2); (try clear hk); (try clear hi)))
                  go_ret
                  exact ⟨by first | rfl | (simp [errW_none, errW_some] <;> rfl) | (simp [*, errW_none, errW_some] <;> rfl) | (exfalso; simp_all; done), by repeat (first | (with_reducible first | exact HB.out | apply below_alloc | apply pw_below_drewN | apply below_drew1) | exact HB.out)⟩
                · rw [if_neg c31] at H
                  have c31b0 : decide (a1 < a2) = false := decide_eq_false c31
                  clear c31
                  by_cases c33 : a0 = 10
                  · rw [if_pos c33] at H
                    have c33b0 : (a0 == 10) = true := beq_iff_eq.mpr c33
                    have c33b1 : (a0 != 10) = false := bne_eq_false_iff_eq.mpr c33
                    clear c33
                    obtain rfl := Option.some.inj H
                    go_enter Try.func13, Try.ntmps13
                    go_wp2_with (first | (go_at_call 22; (with_reducible refine (vireoref05_Less.calls k a1 a2 false _ A8.out).mono ?_); rintro e w34 ⟨rfl, hb⟩; have n0_ := Aside0.mk (below_step (by repeat (first | (with_reducible first | exact HB.out | apply below_alloc | apply pw_below_drewN | apply below_drew1) | exact HB.out)) hb); clear HB; have HB := n0_; clear n0_; (try clear hb); (try clear hb2); (try clear hk); (try clear hi)))
                    go_ret
                    exact ⟨by first | rfl | (simp [errW_none, errW_some] <;> rfl) | (simp [*, errW_none, errW_some] <;> rfl) | (exfalso; simp_all; done), by repeat (first | (with_reducible first | exact HB.out | apply below_alloc | apply pw_below_drewN | apply below_drew1) | exact HB.out)⟩
                  · rw [if_neg c33] at H
                    have c33b0 : (a0 == 10) = false := beq_eq_false_iff_ne.mpr c33
                    have c33b1 : (a0 != 10) = true := bne_iff_ne.mpr c33
                    obtain rfl := Option.some.inj H
                    go_enter Try.func13, Try.ntmps13
                    go_wp2_with (first | (go_at_call 22; (with_reducible refine (vireoref05_Less.calls k a1 a2 false _ A8.out).mono ?_); rintro e w35 ⟨rfl, hb⟩; have n0_ := Aside0.mk (below_step (by repeat (first | (with_reducible first | exact HB.out | apply below_alloc | apply pw_below_drewN | apply below_drew1) | exact HB.out)) hb); clear HB; have HB := n0_; clear n0_; (try clear hb); (try clear hb2); (try clear hk); (try clear hi)))
                    go_ret
                    exact ⟨by first | rfl | (simp [errW_none, errW_some] <;> rfl) | (simp [*, errW_none, errW_some] <;> rfl) | (exfalso; simp_all; done), by repeat (first | (with_reducible first | exact HB.out | apply below_alloc | apply pw_below_drewN | apply below_drew1) | exact HB.out)⟩
              · rw [if_neg c30] at H
                have c30b0 : (a0 == 9) = false := beq_eq_false_iff_ne.mpr c30
                have c30b1 : (a0 != 9) = true := bne_iff_ne.mpr c30
                by_cases c36 : a0 = 10
                · rw [if_pos c36] at H
                  have c36b0 : (a0 == 10) = true := beq_iff_eq.mpr c36
                  have c36b1 : (a0 != 10) = false := bne_eq_false_iff_eq.mpr c36
                  clear c36
                  obtain rfl := Option.some.inj H
                  go_enter Try.func13, Try.ntmps13
                  go_wp2_with (first | (go_at_call 22; (with_reducible refine (vireoref05_Less.calls k a1 a2 false _ A8.out).mono ?_); rintro e w37 ⟨rfl, hb⟩; have n0_ := Aside0.mk (below_step (by repeat (first | (with_reducible first | exact HB.out | apply below_alloc | apply pw_below_drewN | apply below_drew1) | exact HB.out)) hb); clear HB; have HB := n0_; clear n0_; (try clear hb); (try clear hb2); (try clear hk); (try clear hi)))
                  go_ret
                  exact ⟨by first | rfl | (simp [errW_none, errW_some] <;> rfl) | (simp [*, errW_none, errW_some] <;> rfl) | (exfalso; simp_all; done), by repeat (first | (with_reducible first | exact HB.out | apply below_alloc | apply pw_below_drewN | apply below_drew1) | exact HB.out)⟩
                · rw [if_neg c36] at H
                  have c36b0 : (a0 == 10) = false := beq_eq_false_iff_ne.mpr c36
                  have c36b1 : (a0 != 10) = true := bne_iff_ne.mpr c36
                  obtain rfl := Option.some.inj H
                  go_enter Try.func13, Try.ntmps13
                  go_wp2_with (first | (go_at_call 22; (with_reducible refine (vireoref05_Less.calls k a1 a2 false _ A8.out).mono ?_); rintro e w38 ⟨rfl, hb⟩; have n0_ := Aside0.mk (below_step (by repeat (first | (with_reducible first | exact HB.out | apply below_alloc | apply pw_below_drewN | apply below_drew1) | exact HB.out)) hb); clear HB; have HB := n0_; clear n0_; (try clear hb); (try clear hb2); (try clear hk); (try clear hi)))
                  go_ret
                  exact ⟨by first | rfl | (simp [errW_none, errW_some] <;> rfl) | (simp [*, errW_none, errW_some] <;> rfl) | (exfalso; simp_all; done), by repeat (first | (with_reducible first | exact HB.out | apply below_alloc | apply pw_below_drewN | apply below_drew1) | exact HB.out)⟩
        · rw [if_neg c7] at H
          have c7b0 : (a0 == 7) = false := beq_eq_false_iff_ne.mpr c7
          have c7b1 : (a0 != 7) = true := bne_iff_ne.mpr c7
          by_cases c39 : a0 = 8
          · rw [if_pos c39] at H
            have c39b0 : (a0 == 8) = true := beq_iff_eq.mpr c39
            have c39b1 : (a0 != 8) = false := bne_eq_false_iff_eq.mpr c39
            clear c39
            replace H := Option.bind_eq_some_iff.mp H
            obtain ⟨t214, A400, H⟩ := H
            replace H : (if t214 = true then (if a0 = 9 then (if a1 < a2 then (some true) else (if a0 = 10 then (some (decide (a1 ≥ a2))) else (some false))) else (if a0 = 10 then (some (decide (a1 ≥ a2))) else (some false))) else (some true)) = some r := H
            have A40 := Aside0.mk A400
            clear A400
            by_cases c41 : t214 = true
            · subst c41
              have H1 : (if a0 = 9 then (if a1 < a2 then (some true) else (if a0 = 10 then (some (decide (a1 ≥ a2))) else (some false))) else (if a0 = 10 then (some (decide (a1 ≥ a2))) else (some false))) = some r := by rw [if_pos rfl] at H; exact H
              clear H
              have H := H1
              clear H1
              by_cases c42 : a0 = 9
              · rw [if_pos c42] at H
                have c42b0 : (a0 == 9) = true := beq_iff_eq.mpr c42
                have c42b1 : (a0 != 9) = false := bne_eq_false_iff_eq.mpr c42
                clear c42
                by_cases c43 : a1 < a2
                · rw [if_pos c43] at H
                  have c43b0 : decide (a1 < a2) = true := decide_eq_true c43
                  clear c43
                  obtain rfl := Option.some.inj H
                  go_enter Try.func13, Try.ntmps13
                  go_wp2_with (first | (go_at_call 22; (with_reducible refine (vireoref05_Less.calls k a1 a2 true _ A40.out).mono ?_); rintro e w44 ⟨rfl, hb⟩; have n0_ := Aside0.mk (below_step (by repeat (first | (with_reducible first | exact HB.out | apply below_alloc | apply pw_below_drewN | apply below_drew1) | exact HB.out)) hb); clear HB; have HB := n0_; clear n0_; (try clear hb); (try clear hb2); (try clear hk); (try clear hi)))
                  go_ret
                  exact ⟨by first | rfl | (simp [errW_none, errW_some] <;> rfl) | (simp [*, errW_none, errW_some] <;> rfl) | (exfalso; simp_all; done), by repeat (first | (with_reducible first | exact HB.out | apply below_alloc | apply pw_below_drewN | apply below_drew1) | exact HB.out)⟩
                · rw [if_neg c43] at H
                  have c43b0 : decide (a1 < a2) = false := decide_eq_false c43
                  clear c43
                  by_cases c45 : a0 = 10
                  · rw [if_pos c45] at H
                    have c45b0 : (a0 == 10) = true := beq_iff_eq.mpr c45
                    have c45b1 : (a0 != 10) = false := bne_eq_false_iff_eq.mpr c45
                    clear c45
                    obtain rfl := Option.some.inj H
                    go_enter Try.func13, Try.ntmps13
                    go_wp2_with (first | (go_at_call 22; (with_reducible refine (vireoref05_Less.calls k a1 a2 true _ A40.out).mono ?_); rintro e w46 ⟨rfl, hb⟩; have n0_ := Aside0.mk (below_step (by repeat (first | (with_reducible first | exact HB.out | apply below_alloc | apply pw_below_drewN | apply below_drew1) | exact HB.out)) hb); clear HB; have HB := n0_; clear n0_; (try clear hb); (try clear hb2); (try clear hk); (try clear hi)))
                    go_ret
                    exact ⟨by first | rfl | (simp [errW_none, errW_some] <;> rfl) | (simp [*, errW_none, errW_some] <;> rfl) | (exfalso; simp_all; done), by repeat (first | (with_reducible first | exact HB.out | apply below_alloc | apply pw_below_drewN | apply below_drew1) | exact HB.out)⟩
                  · rw [if_neg c45] at H
                    have c45b0 : (a0 == 10) = false := beq_eq_false_iff_ne.mpr c45
                    have c45b1 : (a0 != 10) = true := bne_iff_ne.mpr c45
                    obtain rfl := Option.some.inj H
                    go_enter Try.func13, Try.ntmps13
                    go_wp2_with (first | (go_at_call 22; (with_reducible refine (vireoref05_Less.calls k a1 a2 true _ A40.out).mono ?_); rintro e w47 ⟨rfl, hb⟩; have n0_ := Aside0.mk (below_step (by repeat (first | (with_reducible first | exact HB.out | apply below_alloc | apply pw_below_drewN | apply below_drew1) | exact HB.out)) hb); clear HB; have HB := n0_; clear n0_; (try clear hb); (try clear hb2); (try clear hk); (try clear hi)))
                    go_ret
                    exact ⟨by first | rfl | (simp [errW_none, errW_some] <;> rfl) | (simp [*, errW_none, errW_some] <;> rfl) | (exfalso; simp_all; done), by repeat (first | (with_reducible first | exact HB.out | apply below_alloc | apply pw_below_drewN | apply below_drew1) | exact HB.out)⟩
              · rw [if_neg c42] at H
                have c42b0 : (a0 == 9) = false := beq_eq_false_iff_ne.mpr c42
                have c42b1 : (a0 != 9) = true := bne_iff_ne.mpr c42
                by_cases c48 : a0 = 10
                · rw [if_pos c48] at H
                  have c48b0 : (a0 == 10) = true := beq_iff_eq.mpr c48
                  have c48b1 : (a0 != 10) = false := bne_eq_false_iff_eq.mpr c48
                  clear c48
                  obtain rfl := Option.some.inj H
                  go_enter Try.func13, Try.ntmps13
                  go_wp2_with (first | (go_at_call 22; (with_reducible refine (vireoref05_Less.calls k a1 a2 true _ A40.out).mono ?_); rintro e w49 ⟨rfl, hb⟩; have n0_ := Aside0.mk (below_step (by repeat (first | (with_reducible first | exact HB.out | apply below_alloc | apply pw_below_drewN | apply below_drew1) | exact HB.out)) hb); clear HB; have HB := n0_; clear n0_; (try clear hb); (try clear hb2); (try clear hk); (try clear hi)))
                  go_ret
                  exact ⟨by first | rfl | (simp [errW_none, errW_some] <;> rfl) | (simp [*, errW_none, errW_some] <;> rfl) | (exfalso; simp_all; done), by repeat (first | (with_reducible first | exact HB.out | apply below_alloc | apply pw_below_drewN | apply below_drew1) | exact HB.out)⟩
                · rw [if_neg c48] at H
                  have c48b0 : (a0 == 10) = false := beq_eq_false_iff_ne.mpr c48
                  have c48b1 : (a0 != 10) = true := bne_iff_ne.mpr c48
                  obtain rfl := Option.some.inj H
                  go_enter Try.func13, Try.ntmps13
                  go_wp2_with (first | (go_at_call 22; (with_reducible refine (vireoref05_Less.calls k a1 a2 true _ A40.out).mono ?_); rintro e w50 ⟨rfl, hb⟩; have n0_ := Aside0.mk (below_step (by repeat (first | (with_reducible first | exact HB.out | apply below_alloc | apply pw_below_drewN | apply below_drew1) | exact HB.out)) hb); clear HB; have HB := n0_; clear n0_; (try clear hb); (try clear hb2); (try clear hk); (try clear hi)))
                  go_ret
                  exact ⟨by first | rfl | (simp [errW_none, errW_some] <;> rfl) | (simp [*, errW_none, errW_some] <;> rfl) | (exfalso; simp_all; done), by repeat (first | (with_reducible first | exact HB.out | apply below_alloc | apply pw_below_drewN | apply below_drew1) | exact HB.out)⟩
            · replace c41 := Bool.eq_false_iff.mpr c41
              subst c41
              have H1 : (some true) = some r := by rw [if_neg (show ¬ (false = true) by decide)] at H; exact H
              clear H
              have H := H1
              clear H1
              obtain rfl := Option.some.inj H
              go_enter Try.func13, Try.ntmps13
              go_wp2_with (first | (go_at_call 22; (with_reducible refine (vireoref05_Less.calls k a1 a2 false _ A40.out).mono ?_); rintro e w51 ⟨rfl, hb⟩; have n0_ := Aside0.mk (below_step (by repeat (first | (with_reducible first | exact HB.out | apply below_alloc | apply pw_below_drewN | apply below_drew1) | exact HB.out)) hb); clear HB; have HB := n0_; clear n0_; (try clear hb); (try clear hb2); (try clear hk); (try clear hi)))
              go_ret
              exact ⟨by first | rfl | (simp [errW_none, errW_some] <;> rfl) | (simp [*, errW_none, errW_some] <;> rfl) | (exfalso; simp_all; done), by repeat (first | (with_reducible first | exact HB.out | apply below_alloc | apply pw_below_drewN | apply below_drew1) | exact HB.out)⟩
          · rw [if_neg c39] at H
            have c39b0 : (a0 == 8) = false := beq_eq_false_iff_ne.mpr c39
            have c39b1 : (a0 != 8) = true := bne_iff_ne.mpr c39
            by_cases c52 : a0 = 9
            · rw [if_pos c52] at H
              have c52b0 : (a0 == 9) = true := beq_iff_eq.mpr c52
              have c52b1 : (a0 != 9) = false := bne_eq_false_iff_eq.mpr c52
              clear c52
              by_cases c53 : a1 < a2
              · rw [if_pos c53] at H
                have c53b0 : decide (a1 < a2) = true := decide_eq_true c53
                clear c53
                obtain rfl := Option.some.inj H
                go_enter Try.func13, Try.ntmps13
                go_wp2
                go_ret
                exact ⟨by first | rfl | (simp [errW_none, errW_some] <;> rfl) | (simp [*, errW_none, errW_some] <;> rfl) | (exfalso; simp_all; done), by repeat (first | (with_reducible first | exact HB.out | apply below_alloc | apply pw_below_drewN | apply below_drew1) | exact HB.out)⟩
              · rw [if_neg c53] at H
                have c53b0 : decide (a1 < a2) = false := decide_eq_false c53
                clear c53
                by_cases c54 : a0 = 10
                · rw [if_pos c54] at H
                  have c54b0 : (a0 == 10) = true := beq_iff_eq.mpr c54
                  have c54b1 : (a0 != 10) = false := bne_eq_false_iff_eq.mpr c54
                  clear c54
                  obtain rfl := Option.some.inj H
                  go_enter Try.func13, Try.ntmps13
                  go_wp2
                  go_ret
                  exact ⟨by first | rfl | (simp [errW_none, errW_some] <;> rfl) | (simp [*, errW_none, errW_some] <;> rfl) | (exfalso; simp_all; done), by repeat (first | (with_reducible first | exact HB.out | apply below_alloc | apply pw_below_drewN | apply below_drew1) | exact HB.out)⟩
                · rw [if_neg c54] at H
                  have c54b0 : (a0 == 10) = false := beq_eq_false_iff_ne.mpr c54
                  have c54b1 : (a0 != 10) = true := bne_iff_ne.mpr c54
                  obtain rfl := Option.some.inj H
                  go_enter Try.func13, Try.ntmps13
                  go_wp2
                  go_ret
                  exact ⟨by first | rfl | (simp [errW_none, errW_some] <;> rfl) | (simp [*, errW_none, errW_some] <;> rfl) | (exfalso; simp_all; done), by repeat (first | (with_reducible first | exact HB.out | apply below_alloc | apply pw_below_drewN | apply below_drew1) | exact HB.out)⟩
            · rw [if_neg c52] at H
              have c52b0 : (a0 == 9) = false := beq_eq_false_iff_ne.mpr c52
              have c52b1 : (a0 != 9) = true := bne_iff_ne.mpr c52
              by_cases c55 : a0 = 10
              · rw [if_pos c55] at H
                have c55b0 : (a0 == 10) = true := beq_iff_eq.mpr c55
                have c55b1 : (a0 != 10) = false := bne_eq_false_iff_eq.mpr c55
                clear c55
                obtain rfl := Option.some.inj H
                go_enter Try.func13, Try.ntmps13
                go_wp2
                go_ret
                exact ⟨by first | rfl | (simp [errW_none, errW_some] <;> rfl) | (simp [*, errW_none, errW_some] <;> rfl) | (exfalso; simp_all; done), by repeat (first | (with_reducible first | exact HB.out | apply below_alloc | apply pw_below_drewN | apply below_drew1) | exact HB.out)⟩
              · rw [if_neg c55] at H
                have c55b0 : (a0 == 10) = false := beq_eq_false_iff_ne.mpr c55
                have c55b1 : (a0 != 10) = true := bne_iff_ne.mpr c55
                obtain rfl := Option.some.inj H
                go_enter Try.func13, Try.ntmps13
                go_wp2
                go_ret
                exact ⟨by first | rfl | (simp [errW_none, errW_some] <;> rfl) | (simp [*, errW_none, errW_some] <;> rfl) | (exfalso; simp_all; done), by repeat (first | (with_reducible first | exact HB.out | apply below_alloc | apply pw_below_drewN | apply below_drew1) | exact HB.out)⟩
  · rw [if_neg c4] at H
    have c4b0 : (a0 == 5) = false := beq_eq_false_iff_ne.mpr c4
    have c4b1 : (a0 != 5) = true := bne_iff_ne.mpr c4
    by_cases c56 : a0 = 6
    · rw [if_pos c56] at H
      have c56b0 : (a0 == 6) = true := beq_iff_eq.mpr c56
      have c56b1 : (a0 != 6) = false := bne_eq_false_iff_eq.mpr c56
      clear c56
      by_cases c57 : a1 = a2
      · rw [if_pos c57] at H
        have c57b0 : (a1 == a2) = true := beq_iff_eq.mpr c57
        have c57b1 : (a1 != a2) = false := bne_eq_false_iff_eq.mpr c57
        clear c57
        by_cases c58 : a0 = 7
        · rw [if_pos c58] at H
          have c58b0 : (a0 == 7) = true := beq_iff_eq.mpr c58
          have c58b1 : (a0 != 7) = false := bne_eq_false_iff_eq.mpr c58
          clear c58
          replace H := Option.bind_eq_some_iff.mp H
          obtain ⟨t215, A590, H⟩ := H
          replace H : (if t215 = true then (some true) else (if a0 = 8 then ((vireoref05_Less.f k a1 a2).bind fun t216 => (if t216 = true then (if a0 = 9 then (if a1 < a2 then (some true) else (if a0 = 10 then (some (decide (a1 ≥ a2))) else (some false))) else (if a0 = 10 then (some (decide (a1 ≥ a2))) else (some false))) else (some true))) else (if a0 = 9 then (if a1 < a2 then (some true) else (if a0 = 10 then (some (decide (a1 ≥ a2))) else (some false))) else (if a0 = 10 then (some (decide (a1 ≥ a2))) else (some false))))) = some r := H
          have A59 := Aside0.mk A590
          clear A590
          by_cases c60 : t215 = true
          · subst c60
            have H1 : (some true) = some r := by rw [if_pos rfl] at H; exact H
            clear H
            have H := H1
            clear H1
            obtain rfl := Option.some.inj H
            go_enter Try.func13, Try.ntmps13
            go_wp2_with (first | (go_at_call 22; (with_reducible refine (vireoref05_Less.calls k a1 a2 true _ A59.out).mono ?_); rintro e w61 ⟨rfl, hb⟩; have n0_ := Aside0.mk (below_step (by repeat (first | (with_reducible first | exact HB.out | apply below_alloc | apply pw_below_drewN | apply below_drew1) | exact HB.out)) hb); clear HB; have HB := n0_; clear n0_; (try clear hb); (try clear hb2); (try clear hk); (try clear hi)))
            go_ret
            exact ⟨by first | rfl | (simp [errW_none, errW_some] <;> rfl) | (simp [*, errW_none, errW_some] <;> rfl) | (exfalso; simp_all; done), by repeat (first | (with_reducible first | exact HB.out | apply below_alloc | apply pw_below_drewN | apply below_drew1) | exact HB.out)⟩
          · replace c60 := Bool.eq_false_iff.mpr c60
            subst c60
            have H1 : (if a0 = 8 then ((vireoref05_Less.f k a1 a2).bind fun t216 => (if t216 = true then (if a0 = 9 then (if a1 < a2 then (some true) else (if a0 = 10 then (some (decide (a1 ≥ a2))) else (some false))) else (if a0 = 10 then (some (decide (a1 ≥ a2))) else (some false))) else (some true))) else (if a0 = 9 then (if a1 < a2 then (some true) else (if a0 = 10 then (some (decide (a1 ≥ a2))) else (some false))) else (if a0 = 10 then (some (decide (a1 ≥ a2))) else (some false)))) = some r := by rw [if_neg (show ¬ (false = true) by decide)] at H; exact H
            clear H
            have H := H1
            clear H1
            by_cases c62 : a0 = 8
            · rw [if_pos c62] at H
              have c62b0 : (a0 == 8) = true := beq_iff_eq.mpr c62
              have c62b1 : (a0 != 8) = false := bne_eq_false_iff_eq.mpr c62
              clear c62
              replace H := Option.bind_eq_some_iff.mp H
              obtain ⟨t216, A630, H⟩ := H
              replace H : (if t216 = true then (if a0 = 9 then (if a1 < a2 then (some true) else (if a0 = 10 then (some (decide (a1 ≥ a2))) else (some false))) else (if a0 = 10 then (some (decide (a1 ≥ a2))) else (some false))) else (some true)) = some r := H
              have A63 := Aside0.mk A630
              clear A630
              by_cases c64 : t216 = true
              · subst c64
                have H1 : (if a0 = 9 then (if a1 < a2 then (some true) else (if a0 = 10 then (some (decide (a1 ≥ a2))) else (some false))) else (if a0 = 10 then (some (decide (a1 ≥ a2))) else (some false))) = some r := by rw [if_pos rfl] at H; exact H
                clear H
                have H := H1
                clear H1
                by_cases c65 : a0 = 9
                · rw [if_pos c65] at H
                  have c65b0 : (a0 == 9) = true := beq_iff_eq.mpr c65
                  have c65b1 : (a0 != 9) = false := bne_eq_false_iff_eq.mpr c65
                  clear c65
                  by_cases c66 : a1 < a2
                  · rw [if_pos c66] at H
                    have c66b0 : decide (a1 < a2) = true := decide_eq_true c66
                    clear c66
                    obtain rfl := Option.some.inj H
                    go_enter Try.func13, Try.ntmps13
                    go_wp2_with (first | (go_at_call 22; (with_reducible refine (vireoref05_Less.calls k a1 a2 false _ A59.out).mono ?_); rintro e w67 ⟨rfl, hb⟩; have n0_ := Aside0.mk (below_step (by repeat (first | (with_reducible first | exact HB.out | apply below_alloc | apply pw_below_drewN | apply below_drew1) | exact HB.out)) hb); clear HB; have HB := n0_; clear n0_; (try clear hb); (try clear hb2); (try clear hk); (try clear hi)) | (go_at_call 22; (with_reducible refine (vireoref05_Less.calls k a1 a2 true _ A63.out).mono ?_); rintro e w68 ⟨rfl, hb⟩; have n0_ := Aside0.mk (below_step (by repeat (first | (with_reducible first | exact HB.out | apply below_alloc | apply pw_below_drewN | apply below_drew1) | exact HB.out)) hb); clear HB; have HB := n0_; clear n0_; (try clear hb); (try clear hb2); (try clear hk); (try clear hi)))
                    go_ret
                    exact ⟨by first | rfl | (simp [errW_none, errW_some] <;> rfl) | (simp [*, errW_none, errW_some] <;> rfl) | (exfalso; simp_all; done), by repeat (first | (with_reducible first | exact HB.out | apply below_alloc | apply pw_below_drewN | apply below_drew1) | exact HB.out)⟩
                  · rw [if_neg c66] at H
                    have c66b0 : decide (a1 < a2) = false := decide_eq_false c66
                    clear c66
                    by_cases c69 : a0 = 10
                    · rw [if_pos c69] at H
                      have c69b0 : (a0 == 10) = true := beq_iff_eq.mpr c69
                      have c69b1 : (a0 != 10) = false := bne_eq_false_iff_eq.mpr c69
                      clear c69
                      obtain rfl := Option.some.inj H
                      go_enter Try.func13, Try.ntmps13
                      go_wp2_with (first | (go_at_call 22; (with_reducible refine (vireoref05_Less.calls k a1 a2 false _ A59.out).mono ?_); rintro e w70 ⟨rfl, hb⟩; have n0_ := Aside0.mk (below_step (by repeat (first | (with_reducible first | exact HB.out | apply below_alloc | apply pw_below_drewN | apply below_drew1) | exact HB.out)) hb); clear HB; have HB := n0_; clear n0_; (try clear hb); (try clear hb2); (try clear hk); (try clear hi)) | (go_at_call 22; (with_reducible refine (vireoref05_Less.calls k a1 a2 true _ A63.out).mono ?_); rintro e w71 ⟨rfl, hb⟩; have n0_ := Aside0.mk (below_step (by repeat (first | (with_reducible first | exact HB.out | apply below_alloc | apply pw_below_drewN | apply below_drew1) | exact HB.out)) hb); clear HB; have HB := n0_; clear n0_; (try clear hb); (try clear hb2); (try clear hk); (try clear hi)))
                      go_ret
                      exact ⟨by first | rfl | (simp [errW_none, errW_some] <;> rfl) | (simp [*, errW_none, errW_some] <;> rfl) | (exfalso; simp_all; done), by repeat (first | (with_reducible first | exact HB.out | apply below_alloc | apply pw_below_drewN | apply below_drew1) | exact HB.out)⟩
                    · rw [if_neg c69] at H
                      have c69b0 : (a0 == 10) = false := beq_eq_false_iff_ne.mpr c69
                      have c69b1 : (a0 != 10) = true := bne_iff_ne.mpr c69
                      obtain rfl := Option.some.inj H
                      go_enter Try.func13, Try.ntmps13
                      go_wp2_with (first | (go_at_call 22; (with_reducible refine (vireoref05_Less.calls k a1 a2 false _ A59.out).mono ?_); rintro e w72 ⟨rfl, hb⟩; have n0_ := Aside0.mk (below_step (by repeat (first | (with_reducible first | exact HB.out | apply below_alloc | apply pw_below_drewN | apply below_drew1) | exact HB.out)) hb); clear HB; have HB := n0_; clear n0_; (try clear hb); (try clear hb2); (try clear hk); (try clear hi)) | (go_at_call 22; (with_reducible refine (vireoref05_Less.calls k a1 a2 true _ A63.out).mono ?_); rintro e w73 ⟨rfl, hb⟩; have n0_ := Aside0.mk (below_step (by repeat (first | (with_reducible first | exact HB.out | apply below_alloc | apply pw_below_drewN | apply below_drew1) | exact HB.out)) hb); clear HB; have HB := n0_; clear n0_; (try clear hb); (try clear hb2); (try clear hk); (try clear hi)))
                      go_ret
                      exact ⟨by first | rfl | (simp [errW_none, errW_some] <;> rfl) | (simp [*, errW_none, errW_some] <;> rfl) | (exfalso; simp_all; done), by repeat (first | (with_reducible first | exact HB.out | apply below_alloc | apply pw_below_drewN | apply below_drew1) | exact HB.out)⟩
                · rw [if_neg c65] at H
                  have c65b0 : (a0 == 9) = false := beq_eq_false_iff_ne.mpr c65
                  have c65b1 : (a0 != 9) = true := bne_iff_ne.mpr c65
                  by_cases c74 : a0 = 10
                  · rw [if_pos c74] at H
                    have c74b0 : (a0 == 10) = true := beq_iff_eq.mpr c74
                    have c74b1 : (a0 != 10) = false := bne_eq_false_iff_eq.mpr c74
                    clear c74
                    obtain rfl := Option.some.inj H
                    go_enter Try.func13, Try.ntmps13
                    go_wp2_with (first | (go_at_call 22; (with_reducible refine (vireoref05_Less.calls k a1 a2 false _ A59.out).mono ?_); rintro e w75 ⟨rfl, hb⟩; have n0_ := Aside0.mk (below_step (by repeat (first | (with_reducible first | exact HB.out | apply below_alloc | apply pw_below_drewN | apply below_drew1) | exact HB.out)) hb); clear HB; have HB := n0_; clear n0_; (try clear hb); (try clear hb2); (try clear hk); (try clear hi)) | (go_at_call 22; (with_reducible refine (vireoref05_Less.calls k a1 a2 true _ A63.out).mono ?_); rintro e w76 ⟨rfl, hb⟩; have n0_ := Aside0.mk (below_step (by repeat (first | (with_reducible first | exact HB.out | apply below_alloc | apply pw_below_drewN | apply below_drew1) | exact HB.out)) hb); clear HB; have HB := n0_; clear n0_; (try clear hb); (try clear hb2); (try clear hk); (try clear hi)))
                    go_ret
                    exact ⟨by first | rfl | (simp [errW_none, errW_some] <;> rfl) | (simp [*, errW_none, errW_some] <;> rfl) | (exfalso; simp_all; done), by repeat (first | (with_reducible first | exact HB.out | apply below_alloc | apply pw_below_drewN | apply below_drew1) | exact HB.out)⟩
                  · rw [if_neg c74] at H
                    have c74b0 : (a0 == 10) = false := beq_eq_false_iff_ne.mpr c74
                    have c74b1 : (a0 != 10) = true := bne_iff_ne.mpr c74
                    obtain rfl := Option.some.inj H
                    go_enter Try.func13, Try.ntmps13
                    go_wp2_with (first | (go_at_call 22; (with_reducible refine (vireoref05_Less.calls k a1 a2 false _ A59.out).mono ?_); rintro e w77 ⟨rfl, hb⟩; have n0_ := Aside0.mk (below_step (by repeat (first | (with_reducible first | exact HB.out | apply below_alloc | apply pw_below_drewN | apply below_drew1) | exact HB.out)) hb); clear HB; have HB := n0_; clear n0_; (try clear hb); (try clear hb2); (try clear hk); (try clear hi)) | (go_at_call 22; (with_reducible refine (vireoref05_Less.calls k a1 a2 true _ A63.out).mono ?_); rintro e w78 ⟨rfl, hb⟩; have n0_ := Aside0.mk (below_step (by repeat (first | (with_reducible first | exact HB.out | apply below_alloc | apply pw_below_drewN | apply below_drew1) | exact HB.out)) hb); clear HB; have HB := n0_; clear n0_; (try clear hb); (try clear hb2); (try clear hk); (try clear hi)))
                    go_ret
                    exact ⟨by first | rfl | (simp [errW_none, errW_some] <;> rfl) | (simp [*, errW_none, errW_some] <;> rfl) | (exfalso; simp_all; done), by repeat (first | (with_reducible first | exact HB.out | apply below_alloc | apply pw_below_drewN | apply below_drew1) | exact HB.out)⟩
              · replace c64 := Bool.eq_false_iff.mpr c64
                subst c64
                have H1 : (some true) = some r := by rw [if_neg (show ¬ (false = true) by decide)] at H; exact H
                clear H
                have H := H1
                clear H1
                obtain rfl := Option.some.inj H
                go_enter Try.func13, Try.ntmps13
                go_wp2_with (first | (go_at_call 22; (with_reducible refine (vireoref05_Less.calls k a1 a2 false _ A59.out).mono ?_); rintro e w79 ⟨rfl, hb⟩; have n0_ := Aside0.mk (below_step (by repeat (first | (with_reducible first | exact HB.out | apply below_alloc | apply pw_below_drewN | apply below_drew1) | exact HB.out)) hb); clear HB; have HB := n0_; clear n0_; (try clear hb); (try clear hb2); (try clear hk); (try clear hi)) | (go_at_call 22; (with_reducible refine (vireoref05_Less.calls k a1 a2 false _ A63.out).mono ?_); rintro e w80 ⟨rfl, hb⟩; have n0_ := Aside0.mk (below_step (by repeat (first | (with_reducible first | exact HB.out | apply below_alloc | apply pw_below_drewN | apply below_drew1) | exact HB.out)) hb); clear HB; have HB := n0_; clear n0_; (try clear hb); (try clear hb2); (try clear hk); (try clear hi)))
                go_ret
                exact ⟨by first | rfl | (simp [errW_none, errW_some] <;> rfl) | (simp [*, errW_none, errW_some] <;> rfl) | (exfalso; simp_all; done), by repeat (first | (with_reducible first | exact HB.out | apply below_alloc | apply pw_below_drewN | apply below_drew1) | exact HB.out)⟩
            · rw [if_neg c62] at H
              have c62b0 : (a0 == 8) = false := beq_eq_false_iff_ne.mpr c62
              have c62b1 : (a0 != 8) = true := bne_iff_ne.mpr c62
              by_cases c81 : a0 = 9
              · rw [if_pos c81] at H
                have c81b0 : (a0 == 9) = true := beq_iff_eq.mpr c81
                have c81b1 : (a0 != 9) = false := bne_eq_false_iff_eq.mpr c81
                clear c81
                by_cases c82 : a1 < a2
                · rw [if_pos c82] at H
                  have c82b0 : decide (a1 < a2) = true := decide_eq_true c82
                  clear c82
                  obtain rfl := Option.some.inj H
                  go_enter Try.func13, Try.ntmps13
                  go_wp2_with (first | (go_at_call 22; (with_reducible refine (vireoref05_Less.calls k a1 a2 false _ A59.out).mono ?_); rintro e w83 ⟨rfl, hb⟩; have n0_ := Aside0.mk (below_step (by repeat (first | (with_reducible first | exact HB.out | apply below_alloc | apply pw_below_drewN | apply below_drew1) | exact HB.out)) hb); clear HB; have HB := n0_; clear n0_; (try clear hb); (try clear hb2); (try clear hk); (try clear hi)))
                  go_ret
                  exact ⟨by first | rfl | (simp [errW_none, errW_some] <;> rfl) | (simp [*, errW_none, errW_some] <;> rfl) | (exfalso; simp_all; done), by repeat (first | (with_reducible first | exact HB.out | apply below_alloc | apply pw_below_drewN | apply below_drew1) | exact HB.out)⟩
                · rw [if_neg c82] at H
                  have c82b0 : decide (a1 < a2) = false := decide_eq_false c82
                  clear c82
                  by_cases c84 : a0 = 10
                  · rw [if_pos c84] at H
                    have c84b0 : (a0 == 10) = true := beq_iff_eq.mpr c84
                    have c84b1 : (a0 != 10) = false := bne_eq_false_iff_eq.mpr c84
                    clear c84
                    obtain rfl := Option.some.inj H
                    go_enter Try.func13, Try.ntmps13
                    go_wp2_with (first | (go_at_call 22; (with_reducible refine (vireoref05_Less.calls k a1 a2 false _ A59.out).mono ?_); rintro e w85 ⟨rfl, hb⟩; have n0_ := Aside0.mk (below_step (by repeat (first | (with_reducible first | exact HB.out | apply below_alloc | apply pw_below_drewN | apply below_drew1) | exact HB.out)) hb); clear HB; have HB := n0_; clear n0_; (try clear hb); (try clear hb2); (try clear hk); (try clear hi)))
                    go_ret
                    exact ⟨by first | rfl | (simp [errW_none, errW_some] <;> rfl) | (simp [*, errW_none, errW_some] <;> rfl) | (exfalso; simp_all; done), by repeat (first | (with_reducible first | exact HB.out | apply below_alloc | apply pw_below_drewN | apply below_drew1) | exact HB.out)⟩
                  · rw [if_neg c84] at H
                    have c84b0 : (a0 == 10) = false := beq_eq_false_iff_ne.mpr c84
                    have c84b1 : (a0 != 10) = true := bne_iff_ne.mpr c84
                    obtain rfl := Option.some.inj H
                    go_enter Try.func13, Try.ntmps13
                    go_wp2_with (first | (go_at_call 22; (with_reducible refine (vireoref05_Less.calls k a1 a2 false _ A59.out).mono ?_); rintro e w86 ⟨rfl, hb⟩; have n0_ := Aside0.mk (below_step (by repeat (first | (with_reducible first | exact HB.out | apply below_alloc | apply pw_below_drewN | apply below_drew1) | exact HB.out)) hb); clear HB; have HB := n0_; clear n0_; (try clear hb); (try clear hb2); (try clear hk); (try clear hi)))
                    go_ret
                    exact ⟨by first | rfl | (simp [errW_none, errW_some] <;> rfl) | (simp [*, errW_none, errW_some] <;> rfl) | (exfalso; simp_all; done), by repeat (first | (with_reducible first | exact HB.out | apply below_alloc | apply pw_below_drewN | apply below_drew1) | exact HB.out)⟩
              · rw [if_neg c81] at H
                have c81b0 : (a0 == 9) = false := beq_eq_false_iff_ne.mpr c81
                have c81b1 : (a0 != 9) = true := bne_iff_ne.mpr c81
                by_cases c87 : a0 = 10
                · rw [if_pos c87] at H
                  have c87b0 : (a0 == 10) = true := beq_iff_eq.mpr c87
                  have c87b1 : (a0 != 10) = false := bne_eq_false_iff_eq.mpr c87
                  clear c87
                  obtain rfl := Option.some.inj H
                  go_enter Try.func13, Try.ntmps13
                  go_wp2_with (first | (go_at_call 22; (with_reducible refine (vireoref05_Less.calls k a1 a2 false _ A59.out).mono ?_); rintro e w88 ⟨rfl, hb⟩; have n0_ := Aside0.mk (below_step (by repeat (first | (with_reducible first | exact HB.out | apply below_alloc | apply pw_below_drewN | apply below_drew1) | exact HB.out)) hb); clear HB; have HB := n0_; clear n0_; (try clear hb); (try clear hb2); (try clear hk); (try clear hi)))
                  go_ret
                  exact ⟨by first | rfl | (simp [errW_none, errW_some] <;> rfl) | (simp [*, errW_none, errW_some] <;> rfl) | (exfalso; simp_all; done), by repeat (first | (with_reducible first | exact HB.out | apply below_alloc | apply pw_below_drewN | apply below_drew1) | exact HB.out)⟩
                · rw [if_neg c87] at H
                  have c87b0 : (a0 == 10) = false := beq_eq_false_iff_ne.mpr c87
                  have c87b1 : (a0 != 10) = true := bne_iff_ne.mpr c87
                  obtain rfl := Option.some.inj H
                  go_enter Try.func13, Try.ntmps13
                  go_wp2_with (first | (go_at_call 22; (with_reducible refine (vireoref05_Less.calls k a1 a2 false _ A59.out).mono ?_); rintro e w89 ⟨rfl, hb⟩; have n0_ := Aside0.mk (below_step (by repeat (first | (with_reducible first | exact HB.out | apply below_alloc | apply pw_below_drewN | apply below_drew1) | exact HB.out)) hb); clear HB; have HB := n0_; clear n0_; (try clear hb); (try clear hb2); (try clear hk); (try clear hi)))
                  go_ret
                  exact ⟨by first | rfl | (simp [errW_none, errW_some] <;> rfl) | (simp [*, errW_none, errW_some] <;> rfl) | (exfalso; simp_all; done), by repeat (first | (with_reducible first | exact HB.out | apply below_alloc | apply pw_below_drewN | apply below_drew1) | exact HB.out)⟩
        · rw [if_neg c58] at H
          have c58b0 : (a0 == 7) = false := beq_eq_false_iff_ne.mpr c58
          have c58b1 : (a0 != 7) = true := bne_iff_ne.mpr c58
          by_cases c90 : a0 = 8
          · rw [if_pos c90] at H
            have c90b0 : (a0 == 8) = true := beq_iff_eq.mpr c90
            have c90b1 : (a0 != 8) = false := bne_eq_false_iff_eq.mpr c90
            clear c90
            replace H := Option.bind_eq_some_iff.mp H
            obtain ⟨t217, A910, H⟩ := H
            replace H : (if t217 = true then (if a0 = 9 then (if a1 < a2 then (some true) else (if a0 = 10 then (some (decide (a1 ≥ a2))) else (some false))) else (if a0 = 10 then (some (decide (a1 ≥ a2))) else (some false))) else (some true)) = some r := H
            have A91 := Aside0.mk A910
            clear A910
            by_cases c92 : t217 = true
            · subst c92
              have H1 : (if a0 = 9 then (if a1 < a2 then (some true) else (if a0 = 10 then (some (decide (a1 ≥ a2))) else (some false))) else (if a0 = 10 then (some (decide (a1 ≥ a2))) else (some false))) = some r := by rw [if_pos rfl] at H; exact H
              clear H
              have H := H1
              clear H1
              by_cases c93 : a0 = 9
              · rw [if_pos c93] at H
                have c93b0 : (a0 == 9) = true := beq_iff_eq.mpr c93
                have c93b1 : (a0 != 9) = false := bne_eq_false_iff_eq.mpr c93
                clear c93
                by_cases c94 : a1 < a2
                · rw [if_pos c94] at H
                  have c94b0 : decide (a1 < a2) = true := decide_eq_true c94
                  clear c94
                  obtain rfl := Option.some.inj H
                  go_enter Try.func13, Try.ntmps13
                  go_wp2_with (first | (go_at_call 22; (with_reducible refine (vireoref05_Less.calls k a1 a2 true _ A91.out).mono ?_); rintro e w95 ⟨rfl, hb⟩; have n0_ := Aside0.mk (below_step (by repeat (first | (with_reducible first | exact HB.out | apply below_alloc | apply pw_below_drewN | apply below_drew1) | exact HB.out)) hb); clear HB; have HB := n0_; clear n0_; (try clear hb); (try clear hb2); (try clear hk); (try clear hi)))
                  go_ret
                  exact ⟨by first | rfl | (simp [errW_none, errW_some] <;> rfl) | (simp [*, errW_none, errW_some] <;> rfl) | (exfalso; simp_all; done), by repeat (first | (with_reducible first | exact HB.out | apply below_alloc | apply pw_below_drewN | apply below_drew1) | exact HB.out)⟩
                · rw [if_neg c94] at H
                  have c94b0 : decide (a1 < a2) = false := decide_eq_false c94
                  clear c94
                  by_cases c96 : a0 = 10
                  · rw [if_pos c96] at H
                    have c96b0 : (a0 == 10) = true := beq_iff_eq.mpr c96
                    have c96b1 : (a0 != 10) = false := bne_eq_false_iff_eq.mpr c96
                    clear c96
                    obtain rfl := Option.some.inj H
                    go_enter Try.func13, Try.ntmps13
                    go_wp2_with (first | (go_at_call 22; (with_reducible refine (vireoref05_Less.calls k a1 a2 true _ A91.out).mono ?_); rintro e w97 ⟨rfl, hb⟩; have n0_ := Aside0.mk (below_step (by repeat (first | (with_reducible first | exact HB.out | apply below_alloc | apply pw_below_drewN | apply below_drew1) | exact HB.out)) hb); clear HB; have HB := n0_; clear n0_; (try clear hb); (try clear hb2); (try clear hk); (try clear hi)))
                    go_ret
                    exact ⟨by first | rfl | (simp [errW_none, errW_some] <;> rfl) | (simp [*, errW_none, errW_some] <;> rfl) | (exfalso; simp_all; done), by repeat (first | (with_reducible first | exact HB.out | apply below_alloc | apply pw_below_drewN | apply below_drew1) | exact HB.out)⟩
                  · rw [if_neg c96] at H
                    have c96b0 : (a0 == 10) = false := beq_eq_false_iff_ne.mpr c96
                    have c96b1 : (a0 != 10) = true := bne_iff_ne.mpr c96
                    obtain rfl := Option.some.inj H
                    go_enter Try.func13, Try.ntmps13
                    go_wp2_with (first | (go_at_call 22; (with_reducible refine (vireoref05_Less.calls k a1 a2 true _ A91.out).mono ?_); rintro e w98 ⟨rfl, hb⟩; have n0_ := Aside0.mk (below_step (by repeat (first | (with_reducible first | exact HB.out | apply below_alloc | apply pw_below_drewN | apply below_drew1) | exact HB.out)) hb); clear HB; have HB := n0_; clear n0_; (try clear hb); (try clear hb2); (try clear hk); (try clear hi)))
                    go_ret
                    exact ⟨by first | rfl | (simp [errW_none, errW_some] <;> rfl) | (simp [*, errW_none, errW_some] <;> rfl) | (exfalso; simp_all; done), by repeat (first | (with_reducible first | exact HB.out | apply below_alloc | apply pw_below_drewN | apply below_drew1) | exact HB.out)⟩
              · rw [if_neg c93] at H
                have c93b0 : (a0 == 9) = false := beq_eq_false_iff_ne.mpr c93
                have c93b1 : (a0 != 9) = true := bne_iff_ne.mpr c93
                by_cases c99 : a0 = 10
                · rw [if_pos c99] at H
                  have c99b0 : (a0 == 10) = true := beq_iff_eq.mpr c99
                  have c99b1 : (a0 != 10) = false := bne_eq_false_iff_eq.mpr c99
                  clear c99
                  obtain rfl := Option.some.inj H
                  go_enter Try.func13, Try.ntmps13
                  go_wp2_with (first | (go_at_call 22; (with_reducible refine (vireoref05_Less.calls k a1 a2 true _ A91.out).mono ?_); rintro e w100 ⟨rfl, hb⟩; have n0_ := Aside0.mk (below_step (by repeat (first | (with_reducible first | exact HB.out | apply below_alloc | apply pw_below_drewN | apply below_drew1) | exact HB.out)) hb); clear HB; have HB := n0_; clear n0_; (try clear hb); (try clear hb2); (try clear hk); (try clear hi)))
                  go_ret
                  exact ⟨by first | rfl | (simp [errW_none, errW_some] <;> rfl) | (simp [*, errW_none, errW_some] <;> rfl) | (exfalso; simp_all; done), by repeat (first | (with_reducible first | exact HB.out | apply below_alloc | apply pw_below_drewN | apply below_drew1) | exact HB.out)⟩
                · rw [if_neg c99] at H
                  have c99b0 : (a0 == 10) = false := beq_eq_false_iff_ne.mpr c99
                  have c99b1 : (a0 != 10) = true := bne_iff_ne.mpr c99
                  obtain rfl := Option.some.inj H
                  go_enter Try.func13, Try.ntmps13
                  go_wp2_with (first | (go_at_call 22; (with_reducible refine (vireoref05_Less.calls k a1 a2 true _ A91.out).mono ?_); rintro e w101 ⟨rfl, hb⟩; have n0_ := Aside0.mk (below_step (by repeat (first | (with_reducible first | exact HB.out | apply below_alloc | apply pw_below_drewN | apply below_drew1) | exact HB.out)) hb); clear HB; have HB := n0_; clear n0_; (try clear hb); (try clear hb2); (try clear hk); (try clear hi)))
                  go_ret
                  exact ⟨by first | rfl | (simp [errW_none, errW_some] <;> rfl) | (simp [*, errW_none, errW_some] <;> rfl) | (exfalso; simp_all; done), by repeat (first | (with_reducible first | exact HB.out | apply below_alloc | apply pw_below_drewN | apply below_drew1) | exact HB.out)⟩
            · replace c92 := Bool.eq_false_iff.mpr c92
              subst c92
              have H1 : (some true) = some r := by rw [if_neg (show ¬ (false = true) by decide)] at H; exact H
              clear H
              have H := H1
              clear H1
              obtain rfl := Option.some.inj H
              go_enter Try.func13, Try.ntmps13
              go_wp2_with (first | (go_at_call 22; (with_reducible refine (vireoref05_Less.calls k a1 a2 false _ A91.out).mono ?_); rintro e w102 ⟨rfl, hb⟩; have n0_ := Aside0.mk (below_step (by repeat (first | (with_reducible first | exact HB.out | apply below_alloc | apply pw_below_drewN | apply below_drew1) | exact HB.out)) hb); clear HB; have HB := n0_; clear n0_; (try clear hb); (try clear hb2); (try clear hk); (try clear hi)))
              go_ret
              exact ⟨by first | rfl | (simp [errW_none, errW_some] <;> rfl) | (simp [*, errW_none, errW_some] <;> rfl) | (exfalso; simp_all; done), by repeat (first | (with_reducible first | exact HB.out | apply below_alloc | apply pw_below_drewN | apply below_drew1) | exact HB.out)⟩
          · rw [if_neg c90] at H
            have c90b0 : (a0 == 8) = false := beq_eq_false_iff_ne.mpr c90
            have c90b1 : (a0 != 8) = true := bne_iff_ne.mpr c90
            by_cases c103 : a0 = 9
            · rw [if_pos c103] at H
              have c103b0 : (a0 == 9) = true := beq_iff_eq.mpr c103
              have c103b1 : (a0 != 9) = false := bne_eq_false_iff_eq.mpr c103
              clear c103
              by_cases c104 : a1 < a2
              · rw [if_pos c104] at H
                have c104b0 : decide (a1 < a2) = true := decide_eq_true c104
                clear c104
                obtain rfl := Option.some.inj H
                go_enter Try.func13, Try.ntmps13
                go_wp2
                go_ret
                exact ⟨by first | rfl | (simp [errW_none, errW_some] <;> rfl) | (simp [*, errW_none, errW_some] <;> rfl) | (exfalso; simp_all; done), by repeat (first | (with_reducible first | exact HB.out | apply below_alloc | apply pw_below_drewN | apply below_drew1) | exact HB.out)⟩
              · rw [if_neg c104] at H
                have c104b0 : decide (a1 < a2) = false := decide_eq_false c104
                clear c104
                by_cases c105 : a0 = 10
                · rw [if_pos c105] at H
                  have c105b0 : (a0 == 10) = true := beq_iff_eq.mpr c105
                  have c105b1 : (a0 != 10) = false := bne_eq_false_iff_eq.mpr c105
                  clear c105
                  obtain rfl := Option.some.inj H
                  go_enter Try.func13, Try.ntmps13
                  go_wp2
                  go_ret
                  exact ⟨by first | rfl | (simp [errW_none, errW_some] <;> rfl) | (simp [*, errW_none, errW_some] <;> rfl) | (exfalso; simp_all; done), by repeat (first | (with_reducible first | exact HB.out | apply below_alloc | apply pw_below_drewN | apply below_drew1) | exact HB.out)⟩
                · rw [if_neg c105] at H
                  have c105b0 : (a0 == 10) = false := beq_eq_false_iff_ne.mpr c105
                  have c105b1 : (a0 != 10) = true := bne_iff_ne.mpr c105
                  obtain rfl := Option.some.inj H
                  go_enter Try.func13, Try.ntmps13
                  go_wp2
                  go_ret
                  exact ⟨by first | rfl | (simp [errW_none, errW_some] <;> rfl) | (simp [*, errW_none, errW_some] <;> rfl) | (exfalso; simp_all; done), by repeat (first | (with_reducible first | exact HB.out | apply below_alloc | apply pw_below_drewN | apply below_drew1) | exact HB.out)⟩
            · rw [if_neg c103] at H
              have c103b0 : (a0 == 9) = false := beq_eq_false_iff_ne.mpr c103
              have c103b1 : (a0 != 9) = true := bne_iff_ne.mpr c103
              by_cases c106 : a0 = 10
              · rw [if_pos c106] at H
                have c106b0 : (a0 == 10) = true := beq_iff_eq.mpr c106
                have c106b1 : (a0 != 10) = false := bne_eq_false_iff_eq.mpr c106
                clear c106
                obtain rfl := Option.some.inj H
                go_enter Try.func13, Try.ntmps13
                go_wp2
                go_ret
                exact ⟨by first | rfl | (simp [errW_none, errW_some] <;> rfl) | (simp [*, errW_none, errW_some] <;> rfl) | (exfalso; simp_all; done), by repeat (first | (with_reducible first | exact HB.out | apply below_alloc | apply pw_below_drewN | apply below_drew1) | exact HB.out)⟩
              · rw [if_neg c106] at H
                have c106b0 : (a0 == 10) = false := beq_eq_false_iff_ne.mpr c106
                have c106b1 : (a0 != 10) = true := bne_iff_ne.mpr c106
                obtain rfl := Option.some.inj H
                go_enter Try.func13, Try.ntmps13
                go_wp2
                go_ret
                exact ⟨by first | rfl | (simp [errW_none, errW_some] <;> rfl) | (simp [*, errW_none, errW_some] <;> rfl) | (exfalso; simp_all; done), by repeat (first | (with_reducible first | exact HB.out | apply below_alloc | apply pw_below_drewN | apply below_drew1) | exact HB.out)⟩
      · rw [if_neg c57] at H
        have c57b0 : (a1 == a2) = false := beq_eq_false_iff_ne.mpr c57
        have c57b1 : (a1 != a2) = true := bne_iff_ne.mpr c57
        obtain rfl := Option.some.inj H
        go_enter Try.func13, Try.ntmps13
        go_wp2
        go_ret
        exact ⟨by first | rfl | (simp [errW_none, errW_some] <;> rfl) | (simp [*, errW_none, errW_some] <;> rfl) | (exfalso; simp_all; done), by repeat (first | (with_reducible first | exact HB.out | apply below_alloc | apply pw_below_drewN | apply below_drew1) | exact HB.out)⟩
    · rw [if_neg c56] at H
      have c56b0 : (a0 == 6) = false := beq_eq_false_iff_ne.mpr c56
      have c56b1 : (a0 != 6) = true := bne_iff_ne.mpr c56
      by_cases c107 : a0 = 7
      · rw [if_pos c107] at H
        have c107b0 : (a0 == 7) = true := beq_iff_eq.mpr c107
        have c107b1 : (a0 != 7) = false := bne_eq_false_iff_eq.mpr c107
        clear c107
        replace H := Option.bind_eq_some_iff.mp H
        obtain ⟨t218, A1080, H⟩ := H
        replace H : (if t218 = true then (some true) else (if a0 = 8 then ((vireoref05_Less.f k a1 a2).bind fun t219 => (if t219 = true then (if a0 = 9 then (if a1 < a2 then (some true) else (if a0 = 10 then (some (decide (a1 ≥ a2))) else (some false))) else (if a0 = 10 then (some (decide (a1 ≥ a2))) else (some false))) else (some true))) else (if a0 = 9 then (if a1 < a2 then (some true) else (if a0 = 10 then (some (decide (a1 ≥ a2))) else (some false))) else (if a0 = 10 then (some (decide (a1 ≥ a2))) else (some false))))) = some r := H
        have A108 := Aside0.mk A1080
        clear A1080
        by_cases c109 : t218 = true
        · subst c109
          have H1 : (some true) = some r := by rw [if_pos rfl] at H; exact H
          clear H
          have H := H1
          clear H1
          obtain rfl := Option.some.inj H
          go_enter Try.func13, Try.ntmps13
          go_wp2_with (first | (go_at_call 22; (with_reducible refine (vireoref05_Less.calls k a1 a2 true _ A108.out).mono ?_); rintro e w110 ⟨rfl, hb⟩; have n0_ := Aside0.mk (below_step (by repeat (first | (with_reducible first | exact HB.out | apply below_alloc | apply pw_below_drewN | apply below_drew1) | exact HB.out)) hb); clear HB; have HB := n0_; clear n0_; (try clear hb); (try clear hb2); (try clear hk); (try clear hi)))
          go_ret
          exact ⟨by first | rfl | (simp [errW_none, errW_some] <;> rfl) | (simp [*, errW_none, errW_some] <;> rfl) | (exfalso; simp_all; done), by repeat (first | (with_reducible first | exact HB.out | apply below_alloc | apply pw_below_drewN | apply below_drew1) | exact HB.out)⟩
        · replace c109 := Bool.eq_false_iff.mpr c109
          subst c109
          have H1 : (if a0 = 8 then ((vireoref05_Less.f k a1 a2).bind fun t219 => (if t219 = true then (if a0 = 9 then (if a1 < a2 then (some true) else (if a0 = 10 then (some (decide (a1 ≥ a2))) else (some false))) else (if a0 = 10 then (some (decide (a1 ≥ a2))) else (some false))) else (some true))) else (if a0 = 9 then (if a1 < a2 then (some true) else (if a0 = 10 then (some (decide (a1 ≥ a2))) else (some false))) else (if a0 = 10 then (some (decide (a1 ≥ a2))) else (some false)))) = some r := by rw [if_neg (show ¬ (false = true) by decide)] at H; exact H
          clear H
          have H := H1
          clear H1
          by_cases c111 : a0 = 8
          · rw [if_pos c111] at H
            have c111b0 : (a0 == 8) = true := beq_iff_eq.mpr c111
            have c111b1 : (a0 != 8) = false := bne_eq_false_iff_eq.mpr c111
            clear c111
            replace H := Option.bind_eq_some_iff.mp H
            obtain ⟨t219, A1120, H⟩ := H
            replace H : (if t219 = true then (if a0 = 9 then (if a1 < a2 then (some true) else (if a0 = 10 then (some (decide (a1 ≥ a2))) else (some false))) else (if a0 = 10 then (some (decide (a1 ≥ a2))) else (some false))) else (some true)) = some r := H
            have A112 := Aside0.mk A1120
            clear A1120
            by_cases c113 : t219 = true
            · subst c113
              have H1 : (if a0 = 9 then (if a1 < a2 then (some true) else (if a0 = 10 then (some (decide (a1 ≥ a2))) else (some false))) else (if a0 = 10 then (some (decide (a1 ≥ a2))) else (some false))) = some r := by rw [if_pos rfl] at H; exact H
              clear H
              have H := H1
              clear H1
              by_cases c114 : a0 = 9
              · rw [if_pos c114] at H
                have c114b0 : (a0 == 9) = true := beq_iff_eq.mpr c114
                have c114b1 : (a0 != 9) = false := bne_eq_false_iff_eq.mpr c114
                clear c114
                by_cases c115 : a1 < a2
                · rw [if_pos c115] at H
                  have c115b0 : decide (a1 < a2) = true := decide_eq_true c115
                  clear c115
                  obtain rfl := Option.some.inj H
                  go_enter Try.func13, Try.ntmps13
                  go_wp2_with (first | (go_at_call 22; (with_reducible refine (vireoref05_Less.calls k a1 a2 false _ A108.out).mono ?_); rintro e w116 ⟨rfl, hb⟩; have n0_ := Aside0.mk (below_step (by repeat (first | (with_reducible first | exact HB.out | apply below_alloc | apply pw_below_drewN | apply below_drew1) | exact HB.out)) hb); clear HB; have HB := n0_; clear n0_; (try clear hb); (try clear hb2); (try clear hk); (try clear hi)) | (go_at_call 22; (with_reducible refine (vireoref05_Less.calls k a1 a2 true _ A112.out).mono ?_); rintro e w117 ⟨rfl, hb⟩; have n0_ := Aside0.mk (below_step (by repeat (first | (with_reducible first | exact HB.out | apply below_alloc | apply pw_below_drewN | apply below_drew1) | exact HB.out)) hb); clear HB; have HB := n0_; clear n0_; (try clear hb); (try clear hb2); (try clear hk); (try clear hi)))
                  go_ret
                  exact ⟨by first | rfl | (simp [errW_none, errW_some] <;> rfl) | (simp [*, errW_none, errW_some] <;> rfl) | (exfalso; simp_all; done), by repeat (first | (with_reducible first | exact HB.out | apply below_alloc | apply pw_below_drewN | apply below_drew1) | exact HB.out)⟩
                · rw [if_neg c115] at H
                  have c115b0 : decide (a1 < a2) = false := decide_eq_false c115
                  clear c115
                  by_cases c118 : a0 = 10
                  · rw [if_pos c118] at H
                    have c118b0 : (a0 == 10) = true := beq_iff_eq.mpr c118
                    have c118b1 : (a0 != 10) = false := bne_eq_false_iff_eq.mpr c118
                    clear c118
                    obtain rfl := Option.some.inj H
                    go_enter Try.func13, Try.ntmps13
                    go_wp2_with (first | (go_at_call 22; (with_reducible refine (vireoref05_Less.calls k a1 a2 false _ A108.out).mono ?_); rintro e w119 ⟨rfl, hb⟩; have n0_ := Aside0.mk (below_step (by repeat (first | (with_reducible first | exact HB.out | apply below_alloc | apply pw_below_drewN | apply below_drew1) | exact HB.out)) hb); clear HB; have HB := n0_; clear n0_; (try clear hb); (try clear hb2); (try clear hk); (try clear hi)) | (go_at_call 22; (with_reducible refine (vireoref05_Less.calls k a1 a2 true _ A112.out).mono ?_); rintro e w120 ⟨rfl, hb⟩; have n0_ := Aside0.mk (below_step (by repeat (first | (with_reducible first | exact HB.out | apply below_alloc | apply pw_below_drewN | apply below_drew1) | exact HB.out)) hb); clear HB; have HB := n0_; clear n0_; (try clear hb); (try clear hb2); (try clear hk); (try clear hi)))
                    go_ret
                    exact ⟨by first | rfl | (simp [errW_none, errW_some] <;> rfl) | (simp [*, errW_none, errW_some] <;> rfl) | (exfalso; simp_all; done), by repeat (first | (with_reducible first | exact HB.out | apply below_alloc | apply pw_below_drewN | apply below_drew1) | exact HB.out)⟩
                  · rw [if_neg c118] at H
                    have c118b0 : (a0 == 10) = false := beq_eq_false_iff_ne.mpr c118
                    have c118b1 : (a0 != 10) = true := bne_iff_ne.mpr c118
                    obtain rfl := Option.some.inj H
                    go_enter Try.func13, Try.ntmps13
                    go_wp2_with (first | (go_at_call 22; (with_reducible refine (vireoref05_Less.calls k a1 a2 false _ A108.out).mono ?_); rintro e w121 ⟨rfl, hb⟩; have n0_ := Aside0.mk (below_step (by repeat (first | (with_reducible first | exact HB.out | apply below_alloc | apply pw_below_drewN | apply below_drew1) | exact HB.out)) hb); clear HB; have HB := n0_; clear n0_; (try clear hb); (try clear hb2); (try clear hk); (try clear hi)) | (go_at_call 22; (with_reducible refine (vireoref05_Less.calls k a1 a2 true _ A112.out).mono ?_); rintro e w122 ⟨rfl, hb⟩; have n0_ := Aside0.mk (below_step (by repeat (first | (with_reducible first | exact HB.out | apply below_alloc | apply pw_below_drewN | apply below_drew1) | exact HB.out)) hb); clear HB; have HB := n0_; clear n0_; (try clear hb); (try clear hb2); (try clear hk); (try clear hi)))
                    go_ret
                    exact ⟨by first | rfl | (simp [errW_none, errW_some] <;> rfl) | (simp [*, errW_none, errW_some] <;> rfl) | (exfalso; simp_all; done), by repeat (first | (with_reducible first | exact HB.out | apply below_alloc | apply pw_below_drewN | apply below_drew1) | exact HB.out)⟩
              · rw [if_neg c114] at H
                have c114b0 : (a0 == 9) = false := beq_eq_false_iff_ne.mpr c114
                have c114b1 : (a0 != 9) = true := bne_iff_ne.mpr c114
                by_cases c123 : a0 = 10
                · rw [if_pos c123] at H
                  have c123b0 : (a0 == 10) = true := beq_iff_eq.mpr c123
                  have c123b1 : (a0 != 10) = false := bne_eq_false_iff_eq.mpr c123
                  clear c123
                  obtain rfl := Option.some.inj H
                  go_enter Try.func13, Try.ntmps13
                  go_wp2_with (first | (go_at_call 22; (with_reducible refine (vireoref05_Less.calls k a1 a2 false _ A108.out).mono ?_); rintro e w124 ⟨rfl, hb⟩; have n0_ := Aside0.mk (below_step (by repeat (first | (with_reducible first | exact HB.out | apply below_alloc | apply pw_below_drewN | apply below_drew1) | exact HB.out)) hb); clear HB; have HB := n0_; clear n0_; (try clear hb); (try clear hb2); (try clear hk); (try clear hi)) | (go_at_call 22; (with_reducible refine (vireoref05_Less.calls k a1 a2 true _ A112.out).mono ?_); rintro e w125 ⟨rfl, hb⟩; have n0_ := Aside0.mk (below_step (by repeat (first | (with_reducible first | exact HB.out | apply below_alloc | apply pw_below_drewN | apply below_drew1) | exact HB.out)) hb); clear HB; have HB := n0_; clear n0_; (try clear hb); (try clear hb2); (try clear hk); (try clear hi)))
                  go_ret
                  exact ⟨by first | rfl | (simp [errW_none, errW_some] <;> rfl) | (simp [*, errW_none, errW_some] <;> rfl) | (exfalso; simp_all; done), by repeat (first | (with_reducible first | exact HB.out | apply below_alloc | apply pw_below_drewN | apply below_drew1) | exact HB.out)⟩
                · rw [if_neg c123] at H
                  have c123b0 : (a0 == 10) = false := beq_eq_false_iff_ne.mpr c123
                  have c123b1 : (a0 != 10) = true := bne_iff_ne.mpr c123
                  obtain rfl := Option.some.inj H
                  go_enter Try.func13, Try.ntmps13
                  go_wp2_with (first | (go_at_call 22; (with_reducible refine (vireoref05_Less.calls k a1 a2 false _ A108.out).mono ?_); rintro e w126 ⟨rfl, hb⟩; have n0_ := Aside0.mk (below_step (by repeat (first | (with_reducible first | exact HB.out | apply below_alloc | apply pw_below_drewN | apply below_drew1) | exact HB.out)) hb); clear HB; have HB := n0_; clear n0_; (try clear hb); (try clear hb2); (try clear hk); (try clear hi)) | (go_at_call 22; (with_reducible refine (vireoref05_Less.calls k a1 a2 true _ A112.out).mono ?_); rintro e w127 ⟨rfl, hb⟩; have n0_ := Aside0.mk (below_step (by repeat (first | (with_reducible first | exact HB.out | apply below_alloc | apply pw_below_drewN | apply below_drew1) | exact HB.out)) hb); clear HB; have HB := n0_; clear n0_; (try clear hb); (try clear hb2); (try clear hk); (try clear hi)))
                  go_ret
                  exact ⟨by first | rfl | (simp [errW_none, errW_some] <;> rfl) | (simp [*, errW_none, errW_some] <;> rfl) | (exfalso; simp_all; done), by repeat (first | (with_reducible first | exact HB.out | apply below_alloc | apply pw_below_drewN | apply below_drew1) | exact HB.out)⟩
            · replace c113 := Bool.eq_false_iff.mpr c113
              subst c113
              have H1 : (some true) = some r := by rw [if_neg (show ¬ (false = true) by decide)] at H; exact H
              clear H
              have H := H1
              clear H1
              obtain rfl := Option.some.inj H
              go_enter Try.func13, Try.ntmps13
              go_wp2_with (first | (go_at_call 22; (with_reducible refine (vireoref05_Less.calls k a1 a2 false _ A108.out).mono ?_); rintro e w128 ⟨rfl, hb⟩; have n0_ := Aside0.mk (below_step (by repeat (first | (with_reducible first | exact HB.out | apply below_alloc | apply pw_below_drewN | apply below_drew1) | exact HB.out)) hb); clear HB; have HB := n0_; clear n0_; (try clear hb); (try clear hb2); (try clear hk); (try clear hi)) | (go_at_call 22; (with_reducible refine (vireoref05_Less.calls k a1 a2 false _ A112.out).mono ?_); rintro e w129 ⟨rfl, hb⟩; have n0_ := Aside0.mk (below_step (by repeat (first | (with_reducible first | exact HB.out | apply below_alloc | apply pw_below_drewN | apply below_drew1) | exact HB.out)) hb); clear HB; have HB := n0_; clear n0_; (try clear hb); (try clear hb2); (try clear hk); (try clear hi)))
              go_ret
              exact ⟨by first | rfl | (simp [errW_none, errW_some] <;> rfl) | (simp [*, errW_none, errW_some] <;> rfl) | (exfalso; simp_all; done), by repeat (first | (with_reducible first | exact HB.out | apply below_alloc | apply pw_below_drewN | apply below_drew1) | exact HB.out)⟩
          · rw [if_neg c111] at H
            have c111b0 : (a0 == 8) = false := beq_eq_false_iff_ne.mpr c111
            have c111b1 : (a0 != 8) = true := bne_iff_ne.mpr c111
            by_cases c130 : a0 = 9
            · rw [if_pos c130] at H
              have c130b0 : (a0 == 9) = true := beq_iff_eq.mpr c130
              have c130b1 : (a0 != 9) = false := bne_eq_false_iff_eq.mpr c130
              clear c130
              by_cases c131 : a1 < a2
              · rw [if_pos c131] at H
                have c131b0 : decide (a1 < a2) = true := decide_eq_true c131
                clear c131
                obtain rfl := Option.some.inj H
                go_enter Try.func13, Try.ntmps13
                go_wp2_with (first | (go_at_call 22; (with_reducible refine (vireoref05_Less.calls k a1 a2 false _ A108.out).mono ?_); rintro e w132 ⟨rfl, hb⟩; have n0_ := Aside0.mk (below_step (by repeat (first | (with_reducible first | exact HB.out | apply below_alloc | apply pw_below_drewN | apply below_drew1) | exact HB.out)) hb); clear HB; have HB := n0_; clear n0_; (try clear hb); (try clear hb2); (try clear hk); (try clear hi)))
                go_ret
                exact ⟨by first | rfl | (simp [errW_none, errW_some] <;> rfl) | (simp [*, errW_none, errW_some] <;> rfl) | (exfalso; simp_all; done), by repeat (first | (with_reducible first | exact HB.out | apply below_alloc | apply pw_below_drewN | apply below_drew1) | exact HB.out)⟩
              · rw [if_neg c131] at H
                have c131b0 : decide (a1 < a2) = false := decide_eq_false c131
                clear c131
                by_cases c133 : a0 = 10
                · rw [if_pos c133] at H
                  have c133b0 : (a0 == 10) = true := beq_iff_eq.mpr c133
                  have c133b1 : (a0 != 10) = false := bne_eq_false_iff_eq.mpr c133
                  clear c133
                  obtain rfl := Option.some.inj H
                  go_enter Try.func13, Try.ntmps13
                  go_wp2_with (first | (go_at_call 22; (with_reducible refine (vireoref05_Less.calls k a1 a2 false _ A108.out).mono ?_); rintro e w134 ⟨rfl, hb⟩; have n0_ := Aside0.mk (below_step (by repeat (first | (with_reducible first | exact HB.out | apply below_alloc | apply pw_below_drewN | apply below_drew1) | exact HB.out)) hb); clear HB; have HB := n0_; clear n0_; (try clear hb); (try clear hb2); (try clear hk); (try clear hi)))
                  go_ret
                  exact ⟨by first | rfl | (simp [errW_none, errW_some] <;> rfl) | (simp [*, errW_none, errW_some] <;> rfl) | (exfalso; simp_all; done), by repeat (first | (with_reducible first | exact HB.out | apply below_alloc | apply pw_below_drewN | apply below_drew1) | exact HB.out)⟩
                · rw [if_neg c133] at H
                  have c133b0 : (a0 == 10) = false := beq_eq_false_iff_ne.mpr c133
                  have c133b1 : (a0 != 10) = true := bne_iff_ne.mpr c133
                  obtain rfl := Option.some.inj H
                  go_enter Try.func13, Try.ntmps13
                  go_wp2_with (first | (go_at_call 22; (with_reducible refine (vireoref05_Less.calls k a1 a2 false _ A108.out).mono ?_); rintro e w135 ⟨rfl, hb⟩; have n0_ := Aside0.mk (below_step (by repeat (first | (with_reducible first | exact HB.out | apply below_alloc | apply pw_below_drewN | apply below_drew1) | exact HB.out)) hb); clear HB; have HB := n0_; clear n0_; (try clear hb); (try clear hb2); (try clear hk); (try clear hi)))
                  go_ret
                  exact ⟨by first | rfl | (simp [errW_none, errW_some] <;> rfl) | (simp [*, errW_none, errW_some] <;> rfl) | (exfalso; simp_all; done), by repeat (first | (with_reducible first | exact HB.out | apply below_alloc | apply pw_below_drewN | apply below_drew1) | exact HB.out)⟩
            · rw [if_neg c130] at H
              have c130b0 : (a0 == 9) = false := beq_eq_false_iff_ne.mpr c130
              have c130b1 : (a0 != 9) = true := bne_iff_ne.mpr c130
              by_cases c136 : a0 = 10
              · rw [if_pos c136] at H
                have c136b0 : (a0 == 10) = true := beq_iff_eq.mpr c136
                have c136b1 : (a0 != 10) = false := bne_eq_false_iff_eq.mpr c136
                clear c136
                obtain rfl := Option.some.inj H
                go_enter Try.func13, Try.ntmps13
                go_wp2_with (first | (go_at_call 22; (with_reducible refine (vireoref05_Less.calls k a1 a2 false _ A108.out).mono ?_); rintro e w137 ⟨rfl, hb⟩; have n0_ := Aside0.mk (below_step (by repeat (first | (with_reducible first | exact HB.out | apply below_alloc | apply pw_below_drewN | apply below_drew1) | exact HB.out)) hb); clear HB; have HB := n0_; clear n0_; (try clear hb); (try clear hb2); (try clear hk); (try clear hi)))
                go_ret
                exact ⟨by first | rfl | (simp [errW_none, errW_some] <;> rfl) | (simp [*, errW_none, errW_some] <;> rfl) | (exfalso; simp_all; done), by repeat (first | (with_reducible first | exact HB.out | apply below_alloc | apply pw_below_drewN | apply below_drew1) | exact HB.out)⟩
              · rw [if_neg c136] at H
                have c136b0 : (a0 == 10) = false := beq_eq_false_iff_ne.mpr c136
                have c136b1 : (a0 != 10) = true := bne_iff_ne.mpr c136
                obtain rfl := Option.some.inj H
                go_enter Try.func13, Try.ntmps13
                go_wp2_with (first | (go_at_call 22; (with_reducible refine (vireoref05_Less.calls k a1 a2 false _ A108.out).mono ?_); rintro e w138 ⟨rfl, hb⟩; have n0_ := Aside0.mk (below_step (by repeat (first | (with_reducible first | exact HB.out | apply below_alloc | apply pw_below_drewN | apply below_drew1) | exact HB.out)) hb); clear HB; have HB := n0_; clear n0_; (try clear hb); (try clear hb2); (try clear hk); (try clear hi)))
                go_ret
                exact ⟨by first | rfl | (simp [errW_none, errW_some] <;> rfl) | (simp [*, errW_none, errW_some] <;> rfl) | (exfalso; simp_all; done), by repeat (first | (with_reducible first | exact HB.out | apply below_alloc | apply pw_below_drewN | apply below_drew1) | exact HB.out)⟩
      · rw [if_neg c107] at H
        have c107b0 : (a0 == 7) = false := beq_eq_false_iff_ne.mpr c107
        have c107b1 : (a0 != 7) = true := bne_iff_ne.mpr c107
        by_cases c139 : a0 = 8
        · rw [if_pos c139] at H
          have c139b0 : (a0 == 8) = true := beq_iff_eq.mpr c139
          have c139b1 : (a0 != 8) = false := bne_eq_false_iff_eq.mpr c139
          clear c139
          replace H := Option.bind_eq_some_iff.mp H
          obtain ⟨t220, A1400, H⟩ := H
          replace H : (if t220 = true then (if a0 = 9 then (if a1 < a2 then (some true) else (if a0 = 10 then (some (decide (a1 ≥ a2))) else (some false))) else (if a0 = 10 then (some (decide (a1 ≥ a2))) else (some false))) else (some true)) = some r := H
          have A140 := Aside0.mk A1400
          clear A1400
          by_cases c141 : t220 = true
          · subst c141
            have H1 : (if a0 = 9 then (if a1 < a2 then (some true) else (if a0 = 10 then (some (decide (a1 ≥ a2))) else (some false))) else (if a0 = 10 then (some (decide (a1 ≥ a2))) else (some false))) = some r := by rw [if_pos rfl] at H; exact H
            clear H
            have H := H1
            clear H1
            by_cases c142 : a0 = 9
            · rw [if_pos c142] at H
              have c142b0 : (a0 == 9) = true := beq_iff_eq.mpr c142
              have c142b1 : (a0 != 9) = false := bne_eq_false_iff_eq.mpr c142
              clear c142
              by_cases c143 : a1 < a2
              · rw [if_pos c143] at H
                have c143b0 : decide (a1 < a2) = true := decide_eq_true c143
                clear c143
                obtain rfl := Option.some.inj H
                go_enter Try.func13, Try.ntmps13
                go_wp2_with (first | (go_at_call 22; (with_reducible refine (vireoref05_Less.calls k a1 a2 true _ A140.out).mono ?_); rintro e w144 ⟨rfl, hb⟩; have n0_ := Aside0.mk (below_step (by repeat (first | (with_reducible first | exact HB.out | apply below_alloc | apply pw_below_drewN | apply below_drew1) | exact HB.out)) hb); clear HB; have HB := n0_; clear n0_; (try clear hb); (try clear hb2); (try clear hk); (try clear hi)))
                go_ret
                exact ⟨by first | rfl | (simp [errW_none, errW_some] <;> rfl) | (simp [*, errW_none, errW_some] <;> rfl) | (exfalso; simp_all; done), by repeat (first | (with_reducible first | exact HB.out | apply below_alloc | apply pw_below_drewN | apply below_drew1) | exact HB.out)⟩
              · rw [if_neg c143] at H
                have c143b0 : decide (a1 < a2) = false := decide_eq_false c143
                clear c143
                by_cases c145 : a0 = 10
                · rw [if_pos c145] at H
                  have c145b0 : (a0 == 10) = true := beq_iff_eq.mpr c145
                  have c145b1 : (a0 != 10) = false := bne_eq_false_iff_eq.mpr c145
                  clear c145
                  obtain rfl := Option.some.inj H
                  go_enter Try.func13, Try.ntmps13
                  go_wp2_with (first | (go_at_call 22; (with_reducible refine (vireoref05_Less.calls k a1 a2 true _ A140.out).mono ?_); rintro e w146 ⟨rfl, hb⟩; have n0_ := Aside0.mk (below_step (by repeat (first | (with_reducible first | exact HB.out | apply below_alloc | apply pw_below_drewN | apply below_drew1) | exact HB.out)) hb); clear HB; have HB := n0_; clear n0_; (try clear hb); (try clear hb2); (try clear hk); (try clear hi)))
                  go_ret
                  exact ⟨by first | rfl | (simp [errW_none, errW_some] <;> rfl) | (simp [*, errW_none, errW_some] <;> rfl) | (exfalso; simp_all; done), by repeat (first | (with_reducible first | exact HB.out | apply below_alloc | apply pw_below_drewN | apply below_drew1) | exact HB.out)⟩
                · rw [if_neg c145] at H
                  have c145b0 : (a0 == 10) = false := beq_eq_false_iff_ne.mpr c145
                  have c145b1 : (a0 != 10) = true := bne_iff_ne.mpr c145
                  obtain rfl := Option.some.inj H
                  go_enter Try.func13, Try.ntmps13
                  go_wp2_with (first | (go_at_call 22; (with_reducible refine (vireoref05_Less.calls k a1 a2 true _ A140.out).mono ?_); rintro e w147 ⟨rfl, hb⟩; have n0_ := Aside0.mk (below_step (by repeat (first | (with_reducible first | exact HB.out | apply below_alloc | apply pw_below_drewN | apply below_drew1) | exact HB.out)) hb); clear HB; have HB := n0_; clear n0_; (try clear hb); (try clear hb2); (try clear hk); (try clear hi)))
                  go_ret
                  exact ⟨by first | rfl | (simp [errW_none, errW_some] <;> rfl) | (simp [*, errW_none, errW_some] <;> rfl) | (exfalso; simp_all; done), by repeat (first | (with_reducible first | exact HB.out | apply below_alloc | apply pw_below_drewN | apply below_drew1) | exact HB.out)⟩
            · rw [if_neg c142] at H
              have c142b0 : (a0 == 9) = false := beq_eq_false_iff_ne.mpr c142
              have c142b1 : (a0 != 9) = true := bne_iff_ne.mpr c142
              by_cases c148 : a0 = 10
              · rw [if_pos c148] at H
                have c148b0 : (a0 == 10) = true := beq_iff_eq.mpr c148
                have c148b1 : (a0 != 10) = false := bne_eq_false_iff_eq.mpr c148
                clear c148
                obtain rfl := Option.some.inj H
                go_enter Try.func13, Try.ntmps13
                go_wp2_with (first | (go_at_call 22; (with_reducible refine (vireoref05_Less.calls k a1 a2 true _ A140.out).mono ?_); rintro e w149 ⟨rfl, hb⟩; have n0_ := Aside0.mk (below_step (by repeat (first | (with_reducible first | exact HB.out | apply below_alloc | apply pw_below_drewN | apply below_drew1) | exact HB.out)) hb); clear HB; have HB := n0_; clear n0_; (try clear hb); (try clear hb2); (try clear hk); (try clear hi)))
                go_ret
                exact ⟨by first | rfl | (simp [errW_none, errW_some] <;> rfl) | (simp [*, errW_none, errW_some] <;> rfl) | (exfalso; simp_all; done), by repeat (first | (with_reducible first | exact HB.out | apply below_alloc | apply pw_below_drewN | apply below_drew1) | exact HB.out)⟩
              · rw [if_neg c148] at H
                have c148b0 : (a0 == 10) = false := beq_eq_false_iff_ne.mpr c148
                have c148b1 : (a0 != 10) = true := bne_iff_ne.mpr c148
                obtain rfl := Option.some.inj H
                go_enter Try.func13, Try.ntmps13
                go_wp2_with (first | (go_at_call 22; (with_reducible refine (vireoref05_Less.calls k a1 a2 true _ A140.out).mono ?_); rintro e w150 ⟨rfl, hb⟩; have n0_ := Aside0.mk (below_step (by repeat (first | (with_reducible first | exact HB.out | apply below_alloc | apply pw_below_drewN | apply below_drew1) | exact HB.out)) hb); clear HB; have HB := n0_; clear n0_; (try clear hb); (try clear hb2); (try clear hk); (try clear hi)))
                go_ret
                exact ⟨by first | rfl | (simp [errW_none, errW_some] <;> rfl) | (simp [*, errW_none, errW_some] <;> rfl) | (exfalso; simp_all; done), by repeat (first | (with_reducible first | exact HB.out | apply below_alloc | apply pw_below_drewN | apply below_drew1) | exact HB.out)⟩
          · replace c141 := Bool.eq_false_iff.mpr c141
            subst c141
            have H1 : (some true) = some r := by rw [if_neg (show ¬ (false = true) by decide)] at H; exact H
            clear H
            have H := H1
            clear H1
            obtain rfl := Option.some.inj H
            go_enter Try.func13, Try.ntmps13
            go_wp2_with (first | (go_at_call 22; (with_reducible refine (vireoref05_Less.calls k a1 a2 false _ A140.out).mono ?_); rintro e w151 ⟨rfl, hb⟩; have n0_ := Aside0.mk (below_step (by repeat (first | (with_reducible first | exact HB.out | apply below_alloc | apply pw_below_drewN | apply below_drew1) | exact HB.out)) hb); clear HB; have HB := n0_; clear n0_; (try clear hb); (try clear hb2); (try clear hk); (try clear hi)))
            go_ret
            exact ⟨by first | rfl | (simp [errW_none, errW_some] <;> rfl) | (simp [*, errW_none, errW_some] <;> rfl) | (exfalso; simp_all; done), by repeat (first | (with_reducible first | exact HB.out | apply below_alloc | apply pw_below_drewN | apply below_drew1) | exact HB.out)⟩
        · rw [if_neg c139] at H
          have c139b0 : (a0 == 8) = false := beq_eq_false_iff_ne.mpr c139
          have c139b1 : (a0 != 8) = true := bne_iff_ne.mpr c139
          by_cases c152 : a0 = 9
          · rw [if_pos c152] at H
            have c152b0 : (a0 == 9) = true := beq_iff_eq.mpr c152
            have c152b1 : (a0 != 9) = false := bne_eq_false_iff_eq.mpr c152
            clear c152
            by_cases c153 : a1 < a2
            · rw [if_pos c153] at H
              have c153b0 : decide (a1 < a2) = true := decide_eq_true c153
              clear c153
              obtain rfl := Option.some.inj H
              go_enter Try.func13, Try.ntmps13
              go_wp2
              go_ret
              exact ⟨by first | rfl | (simp [errW_none, errW_some] <;> rfl) | (simp [*, errW_none, errW_some] <;> rfl) | (exfalso; simp_all; done), by repeat (first | (with_reducible first | exact HB.out | apply below_alloc | apply pw_below_drewN | apply below_drew1) | exact HB.out)⟩
            · rw [if_neg c153] at H
              have c153b0 : decide (a1 < a2) = false := decide_eq_false c153
              clear c153
              by_cases c154 : a0 = 10
              · rw [if_pos c154] at H
                have c154b0 : (a0 == 10) = true := beq_iff_eq.mpr c154
                have c154b1 : (a0 != 10) = false := bne_eq_false_iff_eq.mpr c154
                clear c154
                obtain rfl := Option.some.inj H
                go_enter Try.func13, Try.ntmps13
                go_wp2
                go_ret
                exact ⟨by first | rfl | (simp [errW_none, errW_some] <;> rfl) | (simp [*, errW_none, errW_some] <;> rfl) | (exfalso; simp_all; done), by repeat (first | (with_reducible first | exact HB.out | apply below_alloc | apply pw_below_drewN | apply below_drew1) | exact HB.out)⟩
              · rw [if_neg c154] at H
                have c154b0 : (a0 == 10) = false := beq_eq_false_iff_ne.mpr c154
                have c154b1 : (a0 != 10) = true := bne_iff_ne.mpr c154
                obtain rfl := Option.some.inj H
                go_enter Try.func13, Try.ntmps13
                go_wp2
                go_ret
                exact ⟨by first | rfl | (simp [errW_none, errW_some] <;> rfl) | (simp [*, errW_none, errW_some] <;> rfl) | (exfalso; simp_all; done), by repeat (first | (with_reducible first | exact HB.out | apply below_alloc | apply pw_below_drewN | apply below_drew1) | exact HB.out)⟩
          · rw [if_neg c152] at H
            have c152b0 : (a0 == 9) = false := beq_eq_false_iff_ne.mpr c152
            have c152b1 : (a0 != 9) = true := bne_iff_ne.mpr c152
            by_cases c155 : a0 = 10
            · rw [if_pos c155] at H
              have c155b0 : (a0 == 10) = true := beq_iff_eq.mpr c155
              have c155b1 : (a0 != 10) = false := bne_eq_false_iff_eq.mpr c155
              clear c155
              obtain rfl := Option.some.inj H
              go_enter Try.func13, Try.ntmps13
              go_wp2
              go_ret
              exact ⟨by first | rfl | (simp [errW_none, errW_some] <;> rfl) | (simp [*, errW_none, errW_some] <;> rfl) | (exfalso; simp_all; done), by repeat (first | (with_reducible first | exact HB.out | apply below_alloc | apply pw_below_drewN | apply below_drew1) | exact HB.out)⟩
            · rw [if_neg c155] at H
              have c155b0 : (a0 == 10) = false := beq_eq_false_iff_ne.mpr c155
              have c155b1 : (a0 != 10) = true := bne_iff_ne.mpr c155
              obtain rfl := Option.some.inj H
              go_enter Try.func13, Try.ntmps13
              go_wp2
              go_ret
              exact ⟨by first | rfl | (simp [errW_none, errW_some] <;> rfl) | (simp [*, errW_none, errW_some] <;> rfl) | (exfalso; simp_all; done), by repeat (first | (with_reducible first | exact HB.out | apply below_alloc | apply pw_below_drewN | apply below_drew1) | exact HB.out)⟩

end Go.Proofs.Ytijckgnhkmgpnaa.PAll
