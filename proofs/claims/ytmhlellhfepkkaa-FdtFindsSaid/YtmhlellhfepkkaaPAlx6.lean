-- Laid by this seat's own program (wip/tools/pp.sh, a turned copy of the kit's print). Lean checks it.
import Derived.Test.YtmhlellhfepkkaaPAlx0
import Derived.Test.YtmhlellhfepkkaaPAlx5
namespace Go.Proofs.Ytmhlellhfepkkaa.PAl
open Go.RowKit Go.Proofs.YtmhlellhfepkkaaW.PrintWords Go.Proofs.YtmhlellhfepkkaaW.PrintLast Go.Proofs.YtmhlellhfepkkaaW.PrintMore
attribute [local go_sem] max2_int min2_int max_two min_two max_three min_three max_four min_four   -- for this text's walks alone
set_option linter.unusedVariables false
set_option linter.unusedSimpArgs false

/-! ### vireoref26_Right: function 13 -/
mutual
def vireoref26_Right.l0 : Nat → List (S50) → Int → Int → Option (Bool)
  | 0, _, _, _ => none
  | k + 1, x0, x3, x4 => if x4 < (x0.length : Int) then (if 0 ≤ x4 then ((vireoref26_Named.f k ((rd_T50 x0 x4).f1)).bind fun t171 => (if t171 = true then (vireoref26_Right.j1 k x0 x3 x4 false) else (if x4 > 0 then (vireoref26_Right.j1 k x0 x3 x4 true) else (vireoref26_Right.j1 k x0 x3 x4 (((rd_T50 x0 x4).f1).toList != ([] : List UInt8)))))) else (none)) else (some true)
def vireoref26_Right.j1 : Nat → List (S50) → Int → Int → Bool → Option (Bool)
  | 0, _, _, _, _ => none
  | k + 1, x0, x3, x4, x35 => if x35 = true then (some false) else (vireoref26_Right.l1 k x0 x3 x4 0 x4)
def vireoref26_Right.l1 : Nat → List (S50) → Int → Int → Int → Int → Option (Bool)
  | 0, _, _, _, _, _ => none
  | k + 1, x0, x3, x4, x5, x6 => if x6 ≥ 0 then (if 0 ≤ x6 then (if x6 < (x0.length : Int) then (vireoref26_Right.l1 k x0 x3 x4 (wrap64 (x5 + 1)) ((rd_T50 x0 x6).f0)) else (none)) else (none)) else (if 0 ≤ x4 then (if x4 < (x0.length : Int) then (if x5 > 8 then (vireoref26_Right.j3 k x0 (wrap64 (x3 + (((rd_T50 x0 x4).f2).length : Int))) x4 true) else (vireoref26_Right.j3 k x0 (wrap64 (x3 + (((rd_T50 x0 x4).f2).length : Int))) x4 (decide ((wrap64 (x3 + (((rd_T50 x0 x4).f2).length : Int))) > 256)))) else (none)) else (none))
def vireoref26_Right.j3 : Nat → List (S50) → Int → Int → Bool → Option (Bool)
  | 0, _, _, _, _ => none
  | k + 1, x0, x3, x4, x59 => if x59 = true then (some false) else (vireoref26_Right.l2 k x0 x3 x4 0)
def vireoref26_Right.l2 : Nat → List (S50) → Int → Int → Int → Option (Bool)
  | 0, _, _, _, _ => none
  | k + 1, x0, x3, x4, x7 => if 0 ≤ x4 then (if x4 < (x0.length : Int) then (if x7 < (((rd_T50 x0 x4).f2).length : Int) then (if 0 ≤ x7 then ((vireoref26_Named.f k ((rd_T55 ((rd_T50 x0 x4).f2) x7).f0)).bind fun t178 => (if t178 = true then (if (((rd_T55 ((rd_T50 x0 x4).f2) x7).f1).length : Int) > 4096 then (some false) else (vireoref26_Right.l2 k x0 x3 x4 (wrap64 (x7 + 1)))) else (some false))) else (none)) else (vireoref26_Right.l0 k x0 x3 (wrap64 (x4 + 1)))) else (none)) else (none)
end
def vireoref26_Right.f (k : Nat) (l0 : List (S50)) : Option (Bool) := if (l0.length : Int) > 64 then (some false) else (vireoref26_Right.l0 k l0 0 0)
theorem vireoref26_Right.mono_l : ∀ k, (∀ y0 y1 y2, LeO (vireoref26_Right.l0 k y0 y1 y2) (vireoref26_Right.l0 (k + 1) y0 y1 y2)) ∧ (∀ y0 y1 y2 y3, LeO (vireoref26_Right.j1 k y0 y1 y2 y3) (vireoref26_Right.j1 (k + 1) y0 y1 y2 y3)) ∧ (∀ y0 y1 y2 y3 y4, LeO (vireoref26_Right.l1 k y0 y1 y2 y3 y4) (vireoref26_Right.l1 (k + 1) y0 y1 y2 y3 y4)) ∧ (∀ y0 y1 y2 y3, LeO (vireoref26_Right.j3 k y0 y1 y2 y3) (vireoref26_Right.j3 (k + 1) y0 y1 y2 y3)) ∧ (∀ y0 y1 y2 y3, LeO (vireoref26_Right.l2 k y0 y1 y2 y3) (vireoref26_Right.l2 (k + 1) y0 y1 y2 y3))
  | 0 => ⟨fun _ _ _ r h => by simp [vireoref26_Right.l0] at h, fun _ _ _ _ r h => by simp [vireoref26_Right.j1] at h, fun _ _ _ _ _ r h => by simp [vireoref26_Right.l1] at h, fun _ _ _ _ r h => by simp [vireoref26_Right.j3] at h, fun _ _ _ _ r h => by simp [vireoref26_Right.l2] at h⟩
  | k + 1 => by
    obtain ⟨ih0, ih1, ih2, ih3, ih4⟩ := vireoref26_Right.mono_l k
    refine ⟨?_, ?_, ?_, ?_, ?_⟩
    · intro y0 y1 y2
      unfold vireoref26_Right.l0
      repeat' first
      | (with_reducible exact ih0 _ _ _)
      | (with_reducible exact ih1 _ _ _ _)
      | (with_reducible exact ih2 _ _ _ _ _)
      | (with_reducible exact ih3 _ _ _ _)
      | (with_reducible exact ih4 _ _ _ _)
      | (with_reducible exact vireoref26_Named.mono _ _)
      | (with_reducible exact LeO.refl _)
      | (with_reducible exact LeO.none _)
      | (with_reducible refine LeO.ite ?_ ?_)
      | (with_reducible refine LeO.bind ?_ (fun _ => ?_))
      | exact ih0 _ _ _
      | exact ih1 _ _ _ _
      | exact ih2 _ _ _ _ _
      | exact ih3 _ _ _ _
      | exact ih4 _ _ _ _
      | exact vireoref26_Named.mono _ _
      | exact LeO.none _
      | refine LeO.ite ?_ ?_
      | refine LeO.bind ?_ (fun _ => ?_)
    · intro y0 y1 y2 y3
      unfold vireoref26_Right.j1
      repeat' first
      | (with_reducible exact ih0 _ _ _)
      | (with_reducible exact ih1 _ _ _ _)
      | (with_reducible exact ih2 _ _ _ _ _)
      | (with_reducible exact ih3 _ _ _ _)
      | (with_reducible exact ih4 _ _ _ _)
      | (with_reducible exact vireoref26_Named.mono _ _)
      | (with_reducible exact LeO.refl _)
      | (with_reducible exact LeO.none _)
      | (with_reducible refine LeO.ite ?_ ?_)
      | (with_reducible refine LeO.bind ?_ (fun _ => ?_))
      | exact ih0 _ _ _
      | exact ih1 _ _ _ _
      | exact ih2 _ _ _ _ _
      | exact ih3 _ _ _ _
      | exact ih4 _ _ _ _
      | exact vireoref26_Named.mono _ _
      | exact LeO.none _
      | refine LeO.ite ?_ ?_
      | refine LeO.bind ?_ (fun _ => ?_)
    · intro y0 y1 y2 y3 y4
      unfold vireoref26_Right.l1
      repeat' first
      | (with_reducible exact ih0 _ _ _)
      | (with_reducible exact ih1 _ _ _ _)
      | (with_reducible exact ih2 _ _ _ _ _)
      | (with_reducible exact ih3 _ _ _ _)
      | (with_reducible exact ih4 _ _ _ _)
      | (with_reducible exact vireoref26_Named.mono _ _)
      | (with_reducible exact LeO.refl _)
      | (with_reducible exact LeO.none _)
      | (with_reducible refine LeO.ite ?_ ?_)
      | (with_reducible refine LeO.bind ?_ (fun _ => ?_))
      | exact ih0 _ _ _
      | exact ih1 _ _ _ _
      | exact ih2 _ _ _ _ _
      | exact ih3 _ _ _ _
      | exact ih4 _ _ _ _
      | exact vireoref26_Named.mono _ _
      | exact LeO.none _
      | refine LeO.ite ?_ ?_
      | refine LeO.bind ?_ (fun _ => ?_)
    · intro y0 y1 y2 y3
      unfold vireoref26_Right.j3
      repeat' first
      | (with_reducible exact ih0 _ _ _)
      | (with_reducible exact ih1 _ _ _ _)
      | (with_reducible exact ih2 _ _ _ _ _)
      | (with_reducible exact ih3 _ _ _ _)
      | (with_reducible exact ih4 _ _ _ _)
      | (with_reducible exact vireoref26_Named.mono _ _)
      | (with_reducible exact LeO.refl _)
      | (with_reducible exact LeO.none _)
      | (with_reducible refine LeO.ite ?_ ?_)
      | (with_reducible refine LeO.bind ?_ (fun _ => ?_))
      | exact ih0 _ _ _
      | exact ih1 _ _ _ _
      | exact ih2 _ _ _ _ _
      | exact ih3 _ _ _ _
      | exact ih4 _ _ _ _
      | exact vireoref26_Named.mono _ _
      | exact LeO.none _
      | refine LeO.ite ?_ ?_
      | refine LeO.bind ?_ (fun _ => ?_)
    · intro y0 y1 y2 y3
      unfold vireoref26_Right.l2
      repeat' first
      | (with_reducible exact ih0 _ _ _)
      | (with_reducible exact ih1 _ _ _ _)
      | (with_reducible exact ih2 _ _ _ _ _)
      | (with_reducible exact ih3 _ _ _ _)
      | (with_reducible exact ih4 _ _ _ _)
      | (with_reducible exact vireoref26_Named.mono _ _)
      | (with_reducible exact LeO.refl _)
      | (with_reducible exact LeO.none _)
      | (with_reducible refine LeO.ite ?_ ?_)
      | (with_reducible refine LeO.bind ?_ (fun _ => ?_))
      | exact ih0 _ _ _
      | exact ih1 _ _ _ _
      | exact ih2 _ _ _ _ _
      | exact ih3 _ _ _ _
      | exact ih4 _ _ _ _
      | exact vireoref26_Named.mono _ _
      | exact LeO.none _
      | refine LeO.ite ?_ ?_
      | refine LeO.bind ?_ (fun _ => ?_)
theorem vireoref26_Right.mono : ∀ a0 k, LeO (vireoref26_Right.f k a0) (vireoref26_Right.f (k + 1) a0) := by
  intro a0 k
  obtain ⟨ih0, ih1, ih2, ih3, ih4⟩ := vireoref26_Right.mono_l k
  unfold vireoref26_Right.f
  repeat' first
      | (with_reducible exact ih0 _ _ _)
      | (with_reducible exact ih1 _ _ _ _)
      | (with_reducible exact ih2 _ _ _ _ _)
      | (with_reducible exact ih3 _ _ _ _)
      | (with_reducible exact ih4 _ _ _ _)
      | (with_reducible exact vireoref26_Named.mono _ _)
      | (with_reducible exact LeO.refl _)
      | (with_reducible exact LeO.none _)
      | (with_reducible refine LeO.ite ?_ ?_)
      | (with_reducible refine LeO.bind ?_ (fun _ => ?_))
      | exact ih0 _ _ _
      | exact ih1 _ _ _ _
      | exact ih2 _ _ _ _ _
      | exact ih3 _ _ _ _
      | exact ih4 _ _ _ _
      | exact vireoref26_Named.mono _ _
      | exact LeO.none _
      | refine LeO.ite ?_ ?_
      | refine LeO.bind ?_ (fun _ => ?_)
set_option maxHeartbeats 8000000 in
set_option maxRecDepth 100000 in
theorem vireoref26_Right.calls (k : Nat) (A0 : Option Addr) (c0 : Nat) (l0 : List (S50)) (r : Bool) (w : World) (hr0 : Kd.C k50 w A0 l0.length l0) (hc0 : l0.length ≤ c0) (h : vireoref26_Right.f k l0 = some r) :
    Calls Try.prog 13 #[.slice A0 l0.length c0] w fun e w' => e = .returned (.bool r) ∧ Drawn0 w w' := by
  have HR0 := Aside0.mk hr0
  have HC0 := Aside0.mk hc0
  clear hr0 hc0
  have H : (if (l0.length : Int) > 64 then (some false) else (vireoref26_Right.l0 k l0 0 0)) = some r := h
  clear h
  by_cases c2 : (l0.length : Int) > 64
  · rw [if_pos c2] at H
    have c2b0 : decide (64 < (l0.length : Int)) = true := decide_eq_true c2
    have c2b1 : decide (64 < l0.length) = true := decide_eq_true (by omega)
    clear c2
    obtain rfl := Option.some.inj H
    go_enter Try.func13, Try.ntmps13
    go_wp2
    go_ret
    exact ⟨by first | rfl | (simp; done) | (simp [*]; done) | (exfalso; simp_all; done), by repeat (first | exact Drawn0.refl _ | apply Drawn0.step)⟩
  · rw [if_neg c2] at H
    have c2b0 : decide (64 < (l0.length : Int)) = false := decide_eq_false c2
    have c2b1 : decide (64 < l0.length) = false := decide_eq_false (by omega)
    clear c2
    have H' := Aside0.mk H
    clear H
    go_enter Try.func13, Try.ntmps13
    go_wp2
    go_loopg [3, 4] k (fun kq v3 v4 w' => ∃ (x3_1 : Int) (x4_1 : Int), v3 = .int .i64 x3_1 ∧ v4 = .int .i64 x4_1 ∧ Aside0 (vireoref26_Right.l0 kq l0 x3_1 x4_1 = some r) ∧ Aside0 (kq ≤ k) ∧ Drawn0 w w')
    case atStart => exact ⟨(0), (0), (by first | rfl | (simp; done) | (simp [*]; done) | (exfalso; simp_all; done)), (by first | rfl | (simp; done) | (simp [*]; done) | (exfalso; simp_all; done)), H', ⟨Nat.le_refl _⟩, by repeat (first | exact Drawn0.refl _ | apply Drawn0.step)⟩
    case round =>
      clear H'
      try clear c1
      try clear c2
      try clear c2b0
      try clear c2b1
      try clear p2
      obtain ⟨x3_1, x4_1, rfl, rfl, HA, HK1, ⟨m1, rfl⟩⟩ := hrel
      cases gk with
      | zero => exact absurd HA.out (by simp [vireoref26_Right.l0])
      | succ k1 =>
        have H := HA.out
        clear HA
        simp only [vireoref26_Right.l0] at H
        by_cases c3 : x4_1 < (l0.length : Int)
        · rw [if_pos c3] at H
          have c3b0 : decide (x4_1 < (l0.length : Int)) = true := decide_eq_true c3
          clear c3
          have HC4 := Aside0.mk H
          clear H
          go_upto_region 7 with (fail)
          go_cut [35] (fun v35 wc => ∃ (kq : Nat) (x35_3 : Bool), v35 = .bool x35_3 ∧ Aside0 (vireoref26_Right.j1 kq l0 x3_1 x4_1 x35_3 = some r) ∧ Aside0 (kq ≤ k1) ∧ Drawn0 w wc)
          case first =>
            have H := HC4.out
            clear HC4
            by_cases c5 : 0 ≤ x4_1
            · rw [if_pos c5] at H
              have c5b0 : decide (0 ≤ x4_1) = true := decide_eq_true c5
              clear c5
              (first | rw [c5b0] | (simp only [i64_w, i32_w]; rw [c5b0]) | skip)
              replace H := Option.bind_eq_some_iff.mp H
              obtain ⟨t171, A60, H⟩ := H
              replace H : (if t171 = true then (vireoref26_Right.j1 k1 l0 x3_1 x4_1 false) else (if x4_1 > 0 then (vireoref26_Right.j1 k1 l0 x3_1 x4_1 true) else (vireoref26_Right.j1 k1 l0 x3_1 x4_1 (((rd_T50 l0 x4_1).f1).toList != ([] : List UInt8))))) = some r := H
              have A6 := Aside0.mk A60
              clear A60
              by_cases c7 : t171 = true
              · subst c7
                have H1 : (vireoref26_Right.j1 k1 l0 x3_1 x4_1 false) = some r := by rw [if_pos rfl] at H; exact H
                clear H
                have H := H1
                clear H1
                have H' := Aside0.mk H
                clear H
                have p170 : 0 ≤ (x4_1 : Int) := of_decide_eq_true (by first | (with_reducible assumption) | assumption)
                have q170 : x4_1 < (l0.length : Int) := of_decide_eq_true (by first | (with_reducible assumption) | assumption)
                obtain ⟨ad170, A170_2, c170_2, e170, hx170_0, hx170_1, hx170_2, hl170_2, hi170_2⟩ := at_T50 HR0.out x4_1 p170 q170
                cases e170
                have HR170_2 := Aside0.mk hi170_2
                have HC170_2 := Aside0.mk hl170_2
                clear hi170_2 hl170_2
                replace p170 := eq_true p170
                replace q170 := eq_true q170
                go_wp2_with (first | ((with_reducible refine gate_callee (f := 31) rfl ?_); refine goesL_ (some 22) rfl rfl Try.func31 (by kernel_rfl) rfl #[.string ((rd_T50 l0 x4_1).f1)] rfl (by (try simp only [List.map_toArray, List.map_cons, List.map_nil]); first | done | rfl | (simp only [List.length_drop, List.length_take]; rfl)) ?_; (with_reducible refine (vireoref26_Named.calls k1 ((rd_T50 l0 x4_1).f1) true _ A6.out).mono ?_); rintro e w' ⟨rfl, ⟨nd, rfl⟩⟩; refine ⟨_, rfl, ?_⟩))
                go_meet
                case rel => exact ⟨_, (false), (by first | rfl | (simp; done) | (simp [*]; done) | (exfalso; simp_all; done)), H', ⟨by have := HK1.out; first | omega | exact Nat.le_refl _⟩, by repeat (first | exact Drawn0.refl _ | apply Drawn0.step)⟩
              · replace c7 := Bool.eq_false_iff.mpr c7
                subst c7
                have H1 : (if x4_1 > 0 then (vireoref26_Right.j1 k1 l0 x3_1 x4_1 true) else (vireoref26_Right.j1 k1 l0 x3_1 x4_1 (((rd_T50 l0 x4_1).f1).toList != ([] : List UInt8)))) = some r := by rw [if_neg (show ¬ (false = true) by decide)] at H; exact H
                clear H
                have H := H1
                clear H1
                by_cases c8 : x4_1 > 0
                · rw [if_pos c8] at H
                  have c8b0 : decide (0 < x4_1) = true := decide_eq_true c8
                  clear c8
                  have H' := Aside0.mk H
                  clear H
                  have p170 : 0 ≤ (x4_1 : Int) := of_decide_eq_true (by first | (with_reducible assumption) | assumption)
                  have q170 : x4_1 < (l0.length : Int) := of_decide_eq_true (by first | (with_reducible assumption) | assumption)
                  obtain ⟨ad170, A170_2, c170_2, e170, hx170_0, hx170_1, hx170_2, hl170_2, hi170_2⟩ := at_T50 HR0.out x4_1 p170 q170
                  cases e170
                  have HR170_2 := Aside0.mk hi170_2
                  have HC170_2 := Aside0.mk hl170_2
                  clear hi170_2 hl170_2
                  replace p170 := eq_true p170
                  replace q170 := eq_true q170
                  go_wp2_with (first | ((with_reducible refine gate_callee (f := 31) rfl ?_); refine goesL_ (some 22) rfl rfl Try.func31 (by kernel_rfl) rfl #[.string ((rd_T50 l0 x4_1).f1)] rfl (by (try simp only [List.map_toArray, List.map_cons, List.map_nil]); first | done | rfl | (simp only [List.length_drop, List.length_take]; rfl)) ?_; (with_reducible refine (vireoref26_Named.calls k1 ((rd_T50 l0 x4_1).f1) false _ A6.out).mono ?_); rintro e w' ⟨rfl, ⟨nd, rfl⟩⟩; refine ⟨_, rfl, ?_⟩))
                  go_meet
                  case rel => exact ⟨_, (true), (by first | rfl | (simp; done) | (simp [*]; done) | (exfalso; simp_all; done)), H', ⟨by have := HK1.out; first | omega | exact Nat.le_refl _⟩, by repeat (first | exact Drawn0.refl _ | apply Drawn0.step)⟩
                · rw [if_neg c8] at H
                  have c8b0 : decide (0 < x4_1) = false := decide_eq_false c8
                  clear c8
                  have H' := Aside0.mk H
                  clear H
                  have p170 : 0 ≤ (x4_1 : Int) := of_decide_eq_true (by first | (with_reducible assumption) | assumption)
                  have q170 : x4_1 < (l0.length : Int) := of_decide_eq_true (by first | (with_reducible assumption) | assumption)
                  obtain ⟨ad170, A170_2, c170_2, e170, hx170_0, hx170_1, hx170_2, hl170_2, hi170_2⟩ := at_T50 HR0.out x4_1 p170 q170
                  cases e170
                  have HR170_2 := Aside0.mk hi170_2
                  have HC170_2 := Aside0.mk hl170_2
                  clear hi170_2 hl170_2
                  replace p170 := eq_true p170
                  replace q170 := eq_true q170
                  go_wp2_with (first | ((with_reducible refine gate_callee (f := 31) rfl ?_); refine goesL_ (some 22) rfl rfl Try.func31 (by kernel_rfl) rfl #[.string ((rd_T50 l0 x4_1).f1)] rfl (by (try simp only [List.map_toArray, List.map_cons, List.map_nil]); first | done | rfl | (simp only [List.length_drop, List.length_take]; rfl)) ?_; (with_reducible refine (vireoref26_Named.calls k1 ((rd_T50 l0 x4_1).f1) false _ A6.out).mono ?_); rintro e w' ⟨rfl, ⟨nd, rfl⟩⟩; refine ⟨_, rfl, ?_⟩; have p172 : 0 ≤ (x4_1 : Int) := of_decide_eq_true (by first | (with_reducible assumption) | assumption); have q172 : x4_1 < (l0.length : Int) := of_decide_eq_true (by first | (with_reducible assumption) | assumption); obtain ⟨ad172, A172_2, c172_2, e172, hx172_0, hx172_1, hx172_2, hl172_2, hi172_2⟩ := at_T50 HR0.out x4_1 p172 q172; obtain rfl : ad170 = ad172 := (by injection e172); have HR172_2 := Aside0.mk hi172_2; have HC172_2 := Aside0.mk hl172_2; clear hi172_2 hl172_2; replace p172 := eq_true p172; replace q172 := eq_true q172; have ea_ := Option.some.inj (hx170_2.symm.trans hx172_2); injection ea_ with ea_ en_ ec_; subst ea_; subst ec_; clear en_))
                  go_meet
                  case rel => exact ⟨_, ((((rd_T50 l0 x4_1).f1).toList != ([] : List UInt8))), (congrArg Value.bool (by cases (rd_T50 l0 x4_1).f1.toList <;> rfl)), H', ⟨by have := HK1.out; first | omega | exact Nat.le_refl _⟩, by repeat (first | exact Drawn0.refl _ | apply Drawn0.step)⟩
            · rw [if_neg c5] at H
              exact absurd H (by simp)
          case rest =>
            clear HC4
            try clear c1
            try clear p1
            try clear q1
            try clear hx1
            try clear c2
            try clear c2b0
            try clear c2b1
            try clear p2
            try clear c3
            try clear c3b0
            try clear c5
            try clear c5b0
            try clear c7
            try clear c8
            try clear c8b0
            try clear hx170_0
            try clear hx170_1
            try clear hx170_2
            try clear hx172_0
            try clear hx172_1
            try clear hx172_2
            try clear p170
            try clear p172
            try clear p2
            try clear q170
            try clear q172
            obtain ⟨kq, x35_3, rfl, HA, HJ3, ⟨mc3, rfl⟩⟩ := hcut
            cases kq with
            | zero => exact absurd HA.out (by simp [vireoref26_Right.j1])
            | succ kj3 =>
              have H := HA.out
              clear HA
              simp only [vireoref26_Right.j1] at H
              by_cases c9 : x35_3 = true
              · subst c9
                have H1 : (some false) = some r := by rw [if_pos rfl] at H; exact H
                clear H
                have H := H1
                clear H1
                obtain rfl := Option.some.inj H
                go_wp2
                go_ret
                exact ⟨by first | rfl | (simp; done) | (simp [*]; done) | (exfalso; simp_all; done), by repeat (first | exact Drawn0.refl _ | apply Drawn0.step)⟩
              · replace c9 := Bool.eq_false_iff.mpr c9
                subst c9
                have H1 : (vireoref26_Right.l1 kj3 l0 x3_1 x4_1 0 x4_1) = some r := by rw [if_neg (show ¬ (false = true) by decide)] at H; exact H
                clear H
                have H := H1
                clear H1
                have H' := Aside0.mk H
                clear H
                go_wp2
                go_loopg [5, 6] kj3 (fun kq v5 v6 w' => ∃ (x5_3 : Int) (x6_3 : Int), v5 = .int .i64 x5_3 ∧ v6 = .int .i64 x6_3 ∧ Aside0 (vireoref26_Right.l1 kq l0 x3_1 x4_1 x5_3 x6_3 = some r) ∧ Aside0 (kq ≤ kj3) ∧ Drawn0 w w')
                case atStart => exact ⟨(0), (x4_1), (by first | rfl | (simp; done) | (simp [*]; done) | (exfalso; simp_all; done)), (by first | rfl | (simp; done) | (simp [*]; done) | (exfalso; simp_all; done)), H', ⟨Nat.le_refl _⟩, by repeat (first | exact Drawn0.refl _ | apply Drawn0.step)⟩
                case round =>
                  clear H'
                  try clear c1
                  try clear p1
                  try clear q1
                  try clear hx1
                  try clear c2
                  try clear c2b0
                  try clear c2b1
                  try clear p2
                  try clear c3
                  try clear c3b0
                  try clear c5
                  try clear c5b0
                  try clear c7
                  try clear c8
                  try clear c8b0
                  try clear c9
                  try clear hx170_0
                  try clear hx170_1
                  try clear hx170_2
                  try clear hx172_0
                  try clear hx172_1
                  try clear hx172_2
                  try clear p1
                  try clear p170
                  try clear p172
                  try clear p2
                  try clear q1
                  try clear q170
                  try clear q172
                  obtain ⟨x5_3, x6_3, rfl, rfl, HA, HK3, ⟨m3, rfl⟩⟩ := hrel
                  cases gk with
                  | zero => exact absurd HA.out (by simp [vireoref26_Right.l1])
                  | succ k3 =>
                    have H := HA.out
                    clear HA
                    simp only [vireoref26_Right.l1] at H
                    by_cases c10 : x6_3 ≥ 0
                    · rw [if_pos c10] at H
                      have c10b0 : decide (0 ≤ x6_3) = true := decide_eq_true c10
                      clear c10
                      by_cases c11 : 0 ≤ x6_3
                      · rw [if_pos c11] at H
                        have c11b0 : decide (0 ≤ x6_3) = true := decide_eq_true c11
                        clear c11
                        by_cases c12 : x6_3 < (l0.length : Int)
                        · rw [if_pos c12] at H
                          have c12b0 : decide (x6_3 < (l0.length : Int)) = true := decide_eq_true c12
                          clear c12
                          have H' := Aside0.mk H
                          clear H
                          have p173 : 0 ≤ (x6_3 : Int) := of_decide_eq_true (by first | (with_reducible assumption) | assumption)
                          have q173 : x6_3 < (l0.length : Int) := of_decide_eq_true (by first | (with_reducible assumption) | assumption)
                          obtain ⟨ad173, A173_2, c173_2, e173, hx173_0, hx173_1, hx173_2, hl173_2, hi173_2⟩ := at_T50 HR0.out x6_3 p173 q173
                          cases e173
                          have HR173_2 := Aside0.mk hi173_2
                          have HC173_2 := Aside0.mk hl173_2
                          clear hi173_2 hl173_2
                          replace p173 := eq_true p173
                          replace q173 := eq_true q173
                          go_wp2
                          go_roundg k3
                          case measure => have := HK1.out; have := HJ3.out; have := HK3.out; omega
                          case rel => exact ⟨(wrap64 (x5_3 + 1)), ((rd_T50 l0 x6_3).f0), (by first | rfl | (simp; done) | (simp [*]; done) | (exfalso; simp_all; done)), (by first | rfl | (simp; done) | (simp [*]; done) | (exfalso; simp_all; done)), H', ⟨by have := HK1.out; have := HJ3.out; have := HK3.out; omega⟩, by repeat (first | exact Drawn0.refl _ | apply Drawn0.step)⟩
                        · rw [if_neg c12] at H
                          exact absurd H (by simp)
                      · rw [if_neg c11] at H
                        exact absurd H (by simp)
                    · rw [if_neg c10] at H
                      have c10b0 : decide (0 ≤ x6_3) = false := decide_eq_false c10
                      clear c10
                      by_cases c13 : 0 ≤ x4_1
                      · rw [if_pos c13] at H
                        have c13b0 : decide (0 ≤ x4_1) = true := decide_eq_true c13
                        clear c13
                        by_cases c14 : x4_1 < (l0.length : Int)
                        · rw [if_pos c14] at H
                          have c14b0 : decide (x4_1 < (l0.length : Int)) = true := decide_eq_true c14
                          clear c14
                          have HC15 := Aside0.mk H
                          clear H
                          have p174 : 0 ≤ (x4_1 : Int) := of_decide_eq_true (by first | (with_reducible assumption) | assumption)
                          have q174 : x4_1 < (l0.length : Int) := of_decide_eq_true (by first | (with_reducible assumption) | assumption)
                          obtain ⟨ad174, A174_2, c174_2, e174, hx174_0, hx174_1, hx174_2, hl174_2, hi174_2⟩ := at_T50 HR0.out x4_1 p174 q174
                          cases e174
                          have HR174_2 := Aside0.mk hi174_2
                          have HC174_2 := Aside0.mk hl174_2
                          clear hi174_2 hl174_2
                          replace p174 := eq_true p174
                          replace q174 := eq_true q174
                          go_upto_region 15 with (fail)
                          go_cut [59] (fun v59 wc => ∃ (kq : Nat) (x59_14 : Bool), v59 = .bool x59_14 ∧ Aside0 (vireoref26_Right.j3 kq l0 (wrap64 (x3_1 + (((rd_T50 l0 x4_1).f2).length : Int))) x4_1 x59_14 = some r) ∧ Aside0 (kq ≤ k3) ∧ Drawn0 w wc)
                          case first =>
                            have H := HC15.out
                            clear HC15
                            by_cases c16 : x5_3 > 8
                            · rw [if_pos c16] at H
                              have c16b0 : decide (8 < x5_3) = true := decide_eq_true c16
                              clear c16
                              (first | rw [c16b0] | (simp only [i64_w, i32_w]; rw [c16b0]) | skip)
                              have H' := Aside0.mk H
                              clear H
                              go_wp2
                              go_meet
                              case rel => exact ⟨_, (true), (by first | rfl | (simp; done) | (simp [*]; done) | (exfalso; simp_all; done)), H', ⟨by have := HK1.out; have := HJ3.out; have := HK3.out; first | omega | exact Nat.le_refl _⟩, by repeat (first | exact Drawn0.refl _ | apply Drawn0.step)⟩
                            · rw [if_neg c16] at H
                              have c16b0 : decide (8 < x5_3) = false := decide_eq_false c16
                              clear c16
                              (first | rw [c16b0] | (simp only [i64_w, i32_w]; rw [c16b0]) | skip)
                              have H' := Aside0.mk H
                              clear H
                              go_wp2
                              go_meet
                              case rel => exact ⟨_, (decide ((wrap64 (x3_1 + (((rd_T50 l0 x4_1).f2).length : Int))) > 256)), (by first | rfl | (simp; done) | (simp [*]; done) | (exfalso; simp_all; done)), H', ⟨by have := HK1.out; have := HJ3.out; have := HK3.out; first | omega | exact Nat.le_refl _⟩, by repeat (first | exact Drawn0.refl _ | apply Drawn0.step)⟩
                          case rest =>
                            clear HC15
                            try clear c1
                            try clear p1
                            try clear q1
                            try clear hx1
                            try clear c2
                            try clear c2b0
                            try clear c2b1
                            try clear p2
                            try clear c3
                            try clear c3b0
                            try clear c5
                            try clear c5b0
                            try clear p6
                            try clear c7
                            try clear c8
                            try clear c8b0
                            try clear c9
                            try clear c10
                            try clear c10b0
                            try clear c11
                            try clear c11b0
                            try clear c12
                            try clear c12b0
                            try clear c13
                            try clear c13b0
                            try clear c14
                            try clear c14b0
                            try clear c16
                            try clear c16b0
                            try clear hx170_0
                            try clear hx170_1
                            try clear hx170_2
                            try clear hx172_0
                            try clear hx172_1
                            try clear hx172_2
                            try clear hx173_0
                            try clear hx173_1
                            try clear hx173_2
                            try clear hx174_0
                            try clear hx174_1
                            try clear hx174_2
                            try clear p1
                            try clear p170
                            try clear p172
                            try clear p173
                            try clear p174
                            try clear p2
                            try clear q1
                            try clear q170
                            try clear q172
                            try clear q173
                            try clear q174
                            obtain ⟨kq, x59_14, rfl, HA, HJ14, ⟨mc14, rfl⟩⟩ := hcut
                            cases kq with
                            | zero => exact absurd HA.out (by simp [vireoref26_Right.j3])
                            | succ kj14 =>
                              have H := HA.out
                              clear HA
                              simp only [vireoref26_Right.j3] at H
                              by_cases c17 : x59_14 = true
                              · subst c17
                                have H1 : (some false) = some r := by rw [if_pos rfl] at H; exact H
                                clear H
                                have H := H1
                                clear H1
                                obtain rfl := Option.some.inj H
                                go_wp2
                                go_ret
                                exact ⟨by first | rfl | (simp; done) | (simp [*]; done) | (exfalso; simp_all; done), by repeat (first | exact Drawn0.refl _ | apply Drawn0.step)⟩
                              · replace c17 := Bool.eq_false_iff.mpr c17
                                subst c17
                                have H1 : (vireoref26_Right.l2 kj14 l0 (wrap64 (x3_1 + (((rd_T50 l0 x4_1).f2).length : Int))) x4_1 0) = some r := by rw [if_neg (show ¬ (false = true) by decide)] at H; exact H
                                clear H
                                have H := H1
                                clear H1
                                have H' := Aside0.mk H
                                clear H
                                go_wp2
                                go_loopg [7] kj14 (fun kq v7 w' => ∃ (x7_5 : Int), v7 = .int .i64 x7_5 ∧ Aside0 (vireoref26_Right.l2 kq l0 (wrap64 (x3_1 + (((rd_T50 l0 x4_1).f2).length : Int))) x4_1 x7_5 = some r) ∧ Aside0 (kq ≤ kj14) ∧ Drawn0 w w')
                                case atStart => exact ⟨(0), (by first | rfl | (simp; done) | (simp [*]; done) | (exfalso; simp_all; done)), H', ⟨Nat.le_refl _⟩, by repeat (first | exact Drawn0.refl _ | apply Drawn0.step)⟩
                                case round =>
                                  clear H'
                                  try clear c1
                                  try clear p1
                                  try clear q1
                                  try clear hx1
                                  try clear c2
                                  try clear c2b0
                                  try clear c2b1
                                  try clear p2
                                  try clear c3
                                  try clear c3b0
                                  try clear c5
                                  try clear c5b0
                                  try clear p6
                                  try clear c7
                                  try clear c8
                                  try clear c8b0
                                  try clear c9
                                  try clear c10
                                  try clear c10b0
                                  try clear c11
                                  try clear c11b0
                                  try clear c12
                                  try clear c12b0
                                  try clear c13
                                  try clear c13b0
                                  try clear c14
                                  try clear c14b0
                                  try clear c16
                                  try clear c16b0
                                  try clear c17
                                  try clear p17
                                  try clear q17
                                  try clear hx17
                                  try clear hx170_0
                                  try clear hx170_1
                                  try clear hx170_2
                                  try clear hx172_0
                                  try clear hx172_1
                                  try clear hx172_2
                                  try clear hx173_0
                                  try clear hx173_1
                                  try clear hx173_2
                                  try clear hx174_0
                                  try clear hx174_1
                                  try clear hx174_2
                                  try clear p1
                                  try clear p170
                                  try clear p172
                                  try clear p173
                                  try clear p174
                                  try clear p2
                                  try clear p6
                                  try clear q1
                                  try clear q170
                                  try clear q172
                                  try clear q173
                                  try clear q174
                                  obtain ⟨x7_5, rfl, HA, HK5, ⟨m5, rfl⟩⟩ := hrel
                                  cases gk with
                                  | zero => exact absurd HA.out (by simp [vireoref26_Right.l2])
                                  | succ k5 =>
                                    have H := HA.out
                                    clear HA
                                    simp only [vireoref26_Right.l2] at H
                                    by_cases c18 : 0 ≤ x4_1
                                    · rw [if_pos c18] at H
                                      have c18b0 : decide (0 ≤ x4_1) = true := decide_eq_true c18
                                      clear c18
                                      by_cases c19 : x4_1 < (l0.length : Int)
                                      · rw [if_pos c19] at H
                                        have c19b0 : decide (x4_1 < (l0.length : Int)) = true := decide_eq_true c19
                                        clear c19
                                        by_cases c20 : x7_5 < (((rd_T50 l0 x4_1).f2).length : Int)
                                        · rw [if_pos c20] at H
                                          have c20b0 : decide (x7_5 < (((rd_T50 l0 x4_1).f2).length : Int)) = true := decide_eq_true c20
                                          clear c20
                                          by_cases c21 : 0 ≤ x7_5
                                          · rw [if_pos c21] at H
                                            have c21b0 : decide (0 ≤ x7_5) = true := decide_eq_true c21
                                            clear c21
                                            replace H := Option.bind_eq_some_iff.mp H
                                            obtain ⟨t178, A220, H⟩ := H
                                            replace H : (if t178 = true then (if (((rd_T55 ((rd_T50 l0 x4_1).f2) x7_5).f1).length : Int) > 4096 then (some false) else (vireoref26_Right.l2 k5 l0 (wrap64 (x3_1 + (((rd_T50 l0 x4_1).f2).length : Int))) x4_1 (wrap64 (x7_5 + 1)))) else (some false)) = some r := H
                                            have A22 := Aside0.mk A220
                                            clear A220
                                            by_cases c23 : t178 = true
                                            · subst c23
                                              have H1 : (if (((rd_T55 ((rd_T50 l0 x4_1).f2) x7_5).f1).length : Int) > 4096 then (some false) else (vireoref26_Right.l2 k5 l0 (wrap64 (x3_1 + (((rd_T50 l0 x4_1).f2).length : Int))) x4_1 (wrap64 (x7_5 + 1)))) = some r := by rw [if_pos rfl] at H; exact H
                                              clear H
                                              have H := H1
                                              clear H1
                                              by_cases c24 : (((rd_T55 ((rd_T50 l0 x4_1).f2) x7_5).f1).length : Int) > 4096
                                              · rw [if_pos c24] at H
                                                have c24b0 : decide (4096 < (((rd_T55 ((rd_T50 l0 x4_1).f2) x7_5).f1).length : Int)) = true := decide_eq_true c24
                                                have c24b1 : decide (4096 < ((rd_T55 ((rd_T50 l0 x4_1).f2) x7_5).f1).length) = true := decide_eq_true (by omega)
                                                clear c24
                                                obtain rfl := Option.some.inj H
                                                have p175 : 0 ≤ (x4_1 : Int) := of_decide_eq_true (by first | (with_reducible assumption) | assumption)
                                                have q175 : x4_1 < (l0.length : Int) := of_decide_eq_true (by first | (with_reducible assumption) | assumption)
                                                obtain ⟨ad175, A175_2, c175_2, e175, hx175_0, hx175_1, hx175_2, hl175_2, hi175_2⟩ := at_T50 HR0.out x4_1 p175 q175
                                                obtain rfl : ad174 = ad175 := (by injection e175)
                                                have HR175_2 := Aside0.mk hi175_2
                                                have HC175_2 := Aside0.mk hl175_2
                                                clear hi175_2 hl175_2
                                                replace p175 := eq_true p175
                                                replace q175 := eq_true q175
                                                have p176 : 0 ≤ (x4_1 : Int) := of_decide_eq_true (by first | (with_reducible assumption) | assumption)
                                                have q176 : x4_1 < (l0.length : Int) := of_decide_eq_true (by first | (with_reducible assumption) | assumption)
                                                obtain ⟨ad176, A176_2, c176_2, e176, hx176_0, hx176_1, hx176_2, hl176_2, hi176_2⟩ := at_T50 HR0.out x4_1 p176 q176
                                                obtain rfl : ad174 = ad176 := (by injection e176)
                                                have HR176_2 := Aside0.mk hi176_2
                                                have HC176_2 := Aside0.mk hl176_2
                                                clear hi176_2 hl176_2
                                                replace p176 := eq_true p176
                                                replace q176 := eq_true q176
                                                have ea_ := Option.some.inj (hx175_2.symm.trans hx176_2)
                                                injection ea_ with ea_ en_ ec_
                                                subst ea_
                                                subst ec_
                                                clear en_
                                                have p177 : 0 ≤ (x7_5 : Int) := of_decide_eq_true (by first | (with_reducible assumption) | assumption)
                                                have q177 : x7_5 < (((rd_T50 l0 x4_1).f2).length : Int) := of_decide_eq_true (by first | (with_reducible assumption) | assumption)
                                                obtain ⟨ad177, A177_1, c177_1, e177, hx177_0, hx177_1, hl177_1, hi177_1⟩ := at_T55 HR176_2.out x7_5 p177 q177
                                                cases e177
                                                have HR177_1 := Aside0.mk hi177_1
                                                have HC177_1 := Aside0.mk hl177_1
                                                clear hi177_1 hl177_1
                                                replace p177 := eq_true p177
                                                replace q177 := eq_true q177
                                                go_wp2_with (first | ((with_reducible refine gate_callee (f := 31) rfl ?_); refine goesL_ (some 79) rfl rfl Try.func31 (by kernel_rfl) rfl #[.string ((rd_T55 ((rd_T50 l0 x4_1).f2) x7_5).f0)] rfl (by (try simp only [List.map_toArray, List.map_cons, List.map_nil]); first | done | rfl | (simp only [List.length_drop, List.length_take]; rfl)) ?_; (with_reducible refine (vireoref26_Named.calls k5 ((rd_T55 ((rd_T50 l0 x4_1).f2) x7_5).f0) true _ A22.out).mono ?_); rintro e w' ⟨rfl, ⟨nd, rfl⟩⟩; refine ⟨_, rfl, ?_⟩; have p179 : 0 ≤ (x4_1 : Int) := of_decide_eq_true (by first | (with_reducible assumption) | assumption); have q179 : x4_1 < (l0.length : Int) := of_decide_eq_true (by first | (with_reducible assumption) | assumption); obtain ⟨ad179, A179_2, c179_2, e179, hx179_0, hx179_1, hx179_2, hl179_2, hi179_2⟩ := at_T50 HR0.out x4_1 p179 q179; obtain rfl : ad174 = ad179 := (by injection e179); have HR179_2 := Aside0.mk hi179_2; have HC179_2 := Aside0.mk hl179_2; clear hi179_2 hl179_2; replace p179 := eq_true p179; replace q179 := eq_true q179; have ea_ := Option.some.inj (hx175_2.symm.trans hx179_2); injection ea_ with ea_ en_ ec_; subst ea_; subst ec_; clear en_; have p180 : 0 ≤ (x7_5 : Int) := of_decide_eq_true (by first | (with_reducible assumption) | assumption); have q180 : x7_5 < (((rd_T50 l0 x4_1).f2).length : Int) := of_decide_eq_true (by first | (with_reducible assumption) | assumption); obtain ⟨ad180, A180_1, c180_1, e180, hx180_0, hx180_1, hl180_1, hi180_1⟩ := at_T55 HR179_2.out x7_5 p180 q180; cases e180; have HR180_1 := Aside0.mk hi180_1; have HC180_1 := Aside0.mk hl180_1; clear hi180_1 hl180_1; replace p180 := eq_true p180; replace q180 := eq_true q180))
                                                go_ret
                                                exact ⟨by first | rfl | (simp; done) | (simp [*]; done) | (exfalso; simp_all; done), by repeat (first | exact Drawn0.refl _ | apply Drawn0.step)⟩
                                              · rw [if_neg c24] at H
                                                have c24b0 : decide (4096 < (((rd_T55 ((rd_T50 l0 x4_1).f2) x7_5).f1).length : Int)) = false := decide_eq_false c24
                                                have c24b1 : decide (4096 < ((rd_T55 ((rd_T50 l0 x4_1).f2) x7_5).f1).length) = false := decide_eq_false (by omega)
                                                clear c24
                                                have H' := Aside0.mk H
                                                clear H
                                                have p175 : 0 ≤ (x4_1 : Int) := of_decide_eq_true (by first | (with_reducible assumption) | assumption)
                                                have q175 : x4_1 < (l0.length : Int) := of_decide_eq_true (by first | (with_reducible assumption) | assumption)
                                                obtain ⟨ad175, A175_2, c175_2, e175, hx175_0, hx175_1, hx175_2, hl175_2, hi175_2⟩ := at_T50 HR0.out x4_1 p175 q175
                                                obtain rfl : ad174 = ad175 := (by injection e175)
                                                have HR175_2 := Aside0.mk hi175_2
                                                have HC175_2 := Aside0.mk hl175_2
                                                clear hi175_2 hl175_2
                                                replace p175 := eq_true p175
                                                replace q175 := eq_true q175
                                                have p176 : 0 ≤ (x4_1 : Int) := of_decide_eq_true (by first | (with_reducible assumption) | assumption)
                                                have q176 : x4_1 < (l0.length : Int) := of_decide_eq_true (by first | (with_reducible assumption) | assumption)
                                                obtain ⟨ad176, A176_2, c176_2, e176, hx176_0, hx176_1, hx176_2, hl176_2, hi176_2⟩ := at_T50 HR0.out x4_1 p176 q176
                                                obtain rfl : ad174 = ad176 := (by injection e176)
                                                have HR176_2 := Aside0.mk hi176_2
                                                have HC176_2 := Aside0.mk hl176_2
                                                clear hi176_2 hl176_2
                                                replace p176 := eq_true p176
                                                replace q176 := eq_true q176
                                                have ea_ := Option.some.inj (hx175_2.symm.trans hx176_2)
                                                injection ea_ with ea_ en_ ec_
                                                subst ea_
                                                subst ec_
                                                clear en_
                                                have p177 : 0 ≤ (x7_5 : Int) := of_decide_eq_true (by first | (with_reducible assumption) | assumption)
                                                have q177 : x7_5 < (((rd_T50 l0 x4_1).f2).length : Int) := of_decide_eq_true (by first | (with_reducible assumption) | assumption)
                                                obtain ⟨ad177, A177_1, c177_1, e177, hx177_0, hx177_1, hl177_1, hi177_1⟩ := at_T55 HR176_2.out x7_5 p177 q177
                                                cases e177
                                                have HR177_1 := Aside0.mk hi177_1
                                                have HC177_1 := Aside0.mk hl177_1
                                                clear hi177_1 hl177_1
                                                replace p177 := eq_true p177
                                                replace q177 := eq_true q177
                                                go_wp2_with (first | ((with_reducible refine gate_callee (f := 31) rfl ?_); refine goesL_ (some 79) rfl rfl Try.func31 (by kernel_rfl) rfl #[.string ((rd_T55 ((rd_T50 l0 x4_1).f2) x7_5).f0)] rfl (by (try simp only [List.map_toArray, List.map_cons, List.map_nil]); first | done | rfl | (simp only [List.length_drop, List.length_take]; rfl)) ?_; (with_reducible refine (vireoref26_Named.calls k5 ((rd_T55 ((rd_T50 l0 x4_1).f2) x7_5).f0) true _ A22.out).mono ?_); rintro e w' ⟨rfl, ⟨nd, rfl⟩⟩; refine ⟨_, rfl, ?_⟩; have p179 : 0 ≤ (x4_1 : Int) := of_decide_eq_true (by first | (with_reducible assumption) | assumption); have q179 : x4_1 < (l0.length : Int) := of_decide_eq_true (by first | (with_reducible assumption) | assumption); obtain ⟨ad179, A179_2, c179_2, e179, hx179_0, hx179_1, hx179_2, hl179_2, hi179_2⟩ := at_T50 HR0.out x4_1 p179 q179; obtain rfl : ad174 = ad179 := (by injection e179); have HR179_2 := Aside0.mk hi179_2; have HC179_2 := Aside0.mk hl179_2; clear hi179_2 hl179_2; replace p179 := eq_true p179; replace q179 := eq_true q179; have ea_ := Option.some.inj (hx175_2.symm.trans hx179_2); injection ea_ with ea_ en_ ec_; subst ea_; subst ec_; clear en_; have p180 : 0 ≤ (x7_5 : Int) := of_decide_eq_true (by first | (with_reducible assumption) | assumption); have q180 : x7_5 < (((rd_T50 l0 x4_1).f2).length : Int) := of_decide_eq_true (by first | (with_reducible assumption) | assumption); obtain ⟨ad180, A180_1, c180_1, e180, hx180_0, hx180_1, hl180_1, hi180_1⟩ := at_T55 HR179_2.out x7_5 p180 q180; cases e180; have HR180_1 := Aside0.mk hi180_1; have HC180_1 := Aside0.mk hl180_1; clear hi180_1 hl180_1; replace p180 := eq_true p180; replace q180 := eq_true q180))
                                                go_roundg k5
                                                case measure => have := HK1.out; have := HJ3.out; have := HK3.out; have := HJ14.out; have := HK5.out; omega
                                                case rel => exact ⟨(wrap64 (x7_5 + 1)), (by first | rfl | (simp; done) | (simp [*]; done) | (exfalso; simp_all; done)), H', ⟨by have := HK1.out; have := HJ3.out; have := HK3.out; have := HJ14.out; have := HK5.out; omega⟩, by repeat (first | exact Drawn0.refl _ | apply Drawn0.step)⟩
                                            · replace c23 := Bool.eq_false_iff.mpr c23
                                              subst c23
                                              have H1 : (some false) = some r := by rw [if_neg (show ¬ (false = true) by decide)] at H; exact H
                                              clear H
                                              have H := H1
                                              clear H1
                                              obtain rfl := Option.some.inj H
                                              have p175 : 0 ≤ (x4_1 : Int) := of_decide_eq_true (by first | (with_reducible assumption) | assumption)
                                              have q175 : x4_1 < (l0.length : Int) := of_decide_eq_true (by first | (with_reducible assumption) | assumption)
                                              obtain ⟨ad175, A175_2, c175_2, e175, hx175_0, hx175_1, hx175_2, hl175_2, hi175_2⟩ := at_T50 HR0.out x4_1 p175 q175
                                              obtain rfl : ad174 = ad175 := (by injection e175)
                                              have HR175_2 := Aside0.mk hi175_2
                                              have HC175_2 := Aside0.mk hl175_2
                                              clear hi175_2 hl175_2
                                              replace p175 := eq_true p175
                                              replace q175 := eq_true q175
                                              have p176 : 0 ≤ (x4_1 : Int) := of_decide_eq_true (by first | (with_reducible assumption) | assumption)
                                              have q176 : x4_1 < (l0.length : Int) := of_decide_eq_true (by first | (with_reducible assumption) | assumption)
                                              obtain ⟨ad176, A176_2, c176_2, e176, hx176_0, hx176_1, hx176_2, hl176_2, hi176_2⟩ := at_T50 HR0.out x4_1 p176 q176
                                              obtain rfl : ad174 = ad176 := (by injection e176)
                                              have HR176_2 := Aside0.mk hi176_2
                                              have HC176_2 := Aside0.mk hl176_2
                                              clear hi176_2 hl176_2
                                              replace p176 := eq_true p176
                                              replace q176 := eq_true q176
                                              have ea_ := Option.some.inj (hx175_2.symm.trans hx176_2)
                                              injection ea_ with ea_ en_ ec_
                                              subst ea_
                                              subst ec_
                                              clear en_
                                              have p177 : 0 ≤ (x7_5 : Int) := of_decide_eq_true (by first | (with_reducible assumption) | assumption)
                                              have q177 : x7_5 < (((rd_T50 l0 x4_1).f2).length : Int) := of_decide_eq_true (by first | (with_reducible assumption) | assumption)
                                              obtain ⟨ad177, A177_1, c177_1, e177, hx177_0, hx177_1, hl177_1, hi177_1⟩ := at_T55 HR176_2.out x7_5 p177 q177
                                              cases e177
                                              have HR177_1 := Aside0.mk hi177_1
                                              have HC177_1 := Aside0.mk hl177_1
                                              clear hi177_1 hl177_1
                                              replace p177 := eq_true p177
                                              replace q177 := eq_true q177
                                              go_wp2_with (first | ((with_reducible refine gate_callee (f := 31) rfl ?_); refine goesL_ (some 79) rfl rfl Try.func31 (by kernel_rfl) rfl #[.string ((rd_T55 ((rd_T50 l0 x4_1).f2) x7_5).f0)] rfl (by (try simp only [List.map_toArray, List.map_cons, List.map_nil]); first | done | rfl | (simp only [List.length_drop, List.length_take]; rfl)) ?_; (with_reducible refine (vireoref26_Named.calls k5 ((rd_T55 ((rd_T50 l0 x4_1).f2) x7_5).f0) false _ A22.out).mono ?_); rintro e w' ⟨rfl, ⟨nd, rfl⟩⟩; refine ⟨_, rfl, ?_⟩))
                                              go_ret
                                              exact ⟨by first | rfl | (simp; done) | (simp [*]; done) | (exfalso; simp_all; done), by repeat (first | exact Drawn0.refl _ | apply Drawn0.step)⟩
                                          · rw [if_neg c21] at H
                                            exact absurd H (by simp)
                                        · rw [if_neg c20] at H
                                          have c20b0 : decide (x7_5 < (((rd_T50 l0 x4_1).f2).length : Int)) = false := decide_eq_false c20
                                          clear c20
                                          have H' := Aside0.mk H
                                          clear H
                                          have p175 : 0 ≤ (x4_1 : Int) := of_decide_eq_true (by first | (with_reducible assumption) | assumption)
                                          have q175 : x4_1 < (l0.length : Int) := of_decide_eq_true (by first | (with_reducible assumption) | assumption)
                                          obtain ⟨ad175, A175_2, c175_2, e175, hx175_0, hx175_1, hx175_2, hl175_2, hi175_2⟩ := at_T50 HR0.out x4_1 p175 q175
                                          obtain rfl : ad174 = ad175 := (by injection e175)
                                          have HR175_2 := Aside0.mk hi175_2
                                          have HC175_2 := Aside0.mk hl175_2
                                          clear hi175_2 hl175_2
                                          replace p175 := eq_true p175
                                          replace q175 := eq_true q175
                                          go_wp2
                                          go_roundg k5
                                          case measure => have := HK1.out; have := HJ3.out; have := HK3.out; have := HJ14.out; have := HK5.out; omega
                                          case rel => exact ⟨((wrap64 (x3_1 + (((rd_T50 l0 x4_1).f2).length : Int)))), (wrap64 (x4_1 + 1)), (by first | rfl | (simp; done) | (simp [*]; done) | (exfalso; simp_all; done)), (by first | rfl | (simp; done) | (simp [*]; done) | (exfalso; simp_all; done)), H', ⟨by have := HK1.out; have := HJ3.out; have := HK3.out; have := HJ14.out; have := HK5.out; omega⟩, by repeat (first | exact Drawn0.refl _ | apply Drawn0.step)⟩
                                      · rw [if_neg c19] at H
                                        exact absurd H (by simp)
                                    · rw [if_neg c18] at H
                                      exact absurd H (by simp)
                        · rw [if_neg c14] at H
                          exact absurd H (by simp)
                      · rw [if_neg c13] at H
                        exact absurd H (by simp)
        · rw [if_neg c3] at H
          have c3b0 : decide (x4_1 < (l0.length : Int)) = false := decide_eq_false c3
          clear c3
          obtain rfl := Option.some.inj H
          go_wp2
          go_ret
          exact ⟨by first | rfl | (simp; done) | (simp [*]; done) | (exfalso; simp_all; done), by repeat (first | exact Drawn0.refl _ | apply Drawn0.step)⟩

end Go.Proofs.Ytmhlellhfepkkaa.PAl
