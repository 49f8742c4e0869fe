-- Laid by this seat's own program (wip/tools/pp.sh, a turned copy of the kit's print). Lean checks it.
import Derived.Test.YtmhlellhfepkkaaPAlx0
namespace Go.Proofs.Ytmhlellhfepkkaa.PAl
open Go.RowKit Go.Proofs.YtmhlellhfepkkaaW.PrintWords Go.Proofs.YtmhlellhfepkkaaW.PrintLast Go.Proofs.YtmhlellhfepkkaaW.PrintMore
attribute [local go_sem] max2_int min2_int max_two min_two max_three min_three max_four min_four   -- for this text's walks alone
set_option linter.unusedVariables false
set_option linter.unusedSimpArgs false

/-! ### vireolaw26_tried: function 10 -/
mutual
def vireolaw26_tried.j0 : Nat → List (S50) → Bool → Option (Bool)
  | 0, _, _ => none
  | k + 1, x0, x20 => if x20 = true then (some false) else (vireolaw26_tried.l0 k x0 0 0)
def vireolaw26_tried.l0 : Nat → List (S50) → Int → Int → Option (Bool)
  | 0, _, _, _ => none
  | k + 1, x0, x3, x4 => if x4 < (x0.length : Int) then (if x4 > 0 then (if 0 ≤ x4 then (if ((rd_T50 x0 x4).f0) < 0 then (vireolaw26_tried.j2 k x0 x3 x4 true) else (if ((rd_T50 x0 x4).f0) ≥ x4 then (vireolaw26_tried.j2 k x0 x3 x4 true) else (if (((rd_T50 x0 x4).f1).size : Int) > 40 then (vireolaw26_tried.j2 k x0 x3 x4 true) else (vireolaw26_tried.j2 k x0 x3 x4 (decide ((((rd_T50 x0 x4).f2).length : Int) > 260)))))) else (none)) else (if 0 ≤ x4 then (if (((rd_T50 x0 x4).f1).size : Int) > 40 then (vireolaw26_tried.j2 k x0 x3 x4 true) else (vireolaw26_tried.j2 k x0 x3 x4 (decide ((((rd_T50 x0 x4).f2).length : Int) > 260)))) else (none))) else (some (decide (x3 ≤ 12000)))
def vireolaw26_tried.j2 : Nat → List (S50) → Int → Int → Bool → Option (Bool)
  | 0, _, _, _, _ => none
  | k + 1, x0, x3, x4, x63 => if x63 = true then (some false) else (vireolaw26_tried.l1 k x0 x3 x4 0)
def vireolaw26_tried.l1 : Nat → List (S50) → Int → Int → Int → Option (Bool)
  | 0, _, _, _, _ => none
  | k + 1, x0, x3, x4, x5 => if 0 ≤ x4 then (if x4 < (x0.length : Int) then (if x5 < (((rd_T50 x0 x4).f2).length : Int) then (if 0 ≤ x5 then (if (((rd_T55 ((rd_T50 x0 x4).f2) x5).f1).length : Int) > 5000 then (some false) else (if (((rd_T55 ((rd_T50 x0 x4).f2) x5).f0).size : Int) > 40 then (some false) else (vireolaw26_tried.l1 k x0 (wrap64 ((wrap64 (x3 + (((rd_T55 ((rd_T50 x0 x4).f2) x5).f1).length : Int))) + 1)) x4 (wrap64 (x5 + 1))))) else (none)) else (vireolaw26_tried.l0 k x0 x3 (wrap64 (x4 + 1)))) else (none)) else (none)
end
def vireolaw26_tried.f (k : Nat) (l0 : List (S50)) : Option (Bool) := if (l0.length : Int) < 1 then (vireolaw26_tried.j0 k l0 true) else (if (l0.length : Int) > 70 then (vireolaw26_tried.j0 k l0 true) else (if 0 < (l0.length : Int) then (vireolaw26_tried.j0 k l0 (((rd_T50 l0 0).f0) != (-1))) else (none)))
theorem vireolaw26_tried.mono_l : ∀ k, (∀ y0 y1, LeO (vireolaw26_tried.j0 k y0 y1) (vireolaw26_tried.j0 (k + 1) y0 y1)) ∧ (∀ y0 y1 y2, LeO (vireolaw26_tried.l0 k y0 y1 y2) (vireolaw26_tried.l0 (k + 1) y0 y1 y2)) ∧ (∀ y0 y1 y2 y3, LeO (vireolaw26_tried.j2 k y0 y1 y2 y3) (vireolaw26_tried.j2 (k + 1) y0 y1 y2 y3)) ∧ (∀ y0 y1 y2 y3, LeO (vireolaw26_tried.l1 k y0 y1 y2 y3) (vireolaw26_tried.l1 (k + 1) y0 y1 y2 y3))
  | 0 => ⟨fun _ _ r h => by simp [vireolaw26_tried.j0] at h, fun _ _ _ r h => by simp [vireolaw26_tried.l0] at h, fun _ _ _ _ r h => by simp [vireolaw26_tried.j2] at h, fun _ _ _ _ r h => by simp [vireolaw26_tried.l1] at h⟩
  | k + 1 => by
    obtain ⟨ih0, ih1, ih2, ih3⟩ := vireolaw26_tried.mono_l k
    refine ⟨?_, ?_, ?_, ?_⟩
    · intro y0 y1
      unfold vireolaw26_tried.j0
      repeat' first
      | (with_reducible exact ih0 _ _)
      | (with_reducible exact ih1 _ _ _)
      | (with_reducible exact ih2 _ _ _ _)
      | (with_reducible exact ih3 _ _ _ _)
      | (with_reducible exact LeO.refl _)
      | (with_reducible exact LeO.none _)
      | (with_reducible refine LeO.ite ?_ ?_)
      | (with_reducible refine LeO.bind ?_ (fun _ => ?_))
      | exact ih0 _ _
      | exact ih1 _ _ _
      | exact ih2 _ _ _ _
      | exact ih3 _ _ _ _
      | exact LeO.none _
      | refine LeO.ite ?_ ?_
      | refine LeO.bind ?_ (fun _ => ?_)
    · intro y0 y1 y2
      unfold vireolaw26_tried.l0
      repeat' first
      | (with_reducible exact ih0 _ _)
      | (with_reducible exact ih1 _ _ _)
      | (with_reducible exact ih2 _ _ _ _)
      | (with_reducible exact ih3 _ _ _ _)
      | (with_reducible exact LeO.refl _)
      | (with_reducible exact LeO.none _)
      | (with_reducible refine LeO.ite ?_ ?_)
      | (with_reducible refine LeO.bind ?_ (fun _ => ?_))
      | exact ih0 _ _
      | exact ih1 _ _ _
      | exact ih2 _ _ _ _
      | exact ih3 _ _ _ _
      | exact LeO.none _
      | refine LeO.ite ?_ ?_
      | refine LeO.bind ?_ (fun _ => ?_)
    · intro y0 y1 y2 y3
      unfold vireolaw26_tried.j2
      repeat' first
      | (with_reducible exact ih0 _ _)
      | (with_reducible exact ih1 _ _ _)
      | (with_reducible exact ih2 _ _ _ _)
      | (with_reducible exact ih3 _ _ _ _)
      | (with_reducible exact LeO.refl _)
      | (with_reducible exact LeO.none _)
      | (with_reducible refine LeO.ite ?_ ?_)
      | (with_reducible refine LeO.bind ?_ (fun _ => ?_))
      | exact ih0 _ _
      | exact ih1 _ _ _
      | exact ih2 _ _ _ _
      | exact ih3 _ _ _ _
      | exact LeO.none _
      | refine LeO.ite ?_ ?_
      | refine LeO.bind ?_ (fun _ => ?_)
    · intro y0 y1 y2 y3
      unfold vireolaw26_tried.l1
      repeat' first
      | (with_reducible exact ih0 _ _)
      | (with_reducible exact ih1 _ _ _)
      | (with_reducible exact ih2 _ _ _ _)
      | (with_reducible exact ih3 _ _ _ _)
      | (with_reducible exact LeO.refl _)
      | (with_reducible exact LeO.none _)
      | (with_reducible refine LeO.ite ?_ ?_)
      | (with_reducible refine LeO.bind ?_ (fun _ => ?_))
      | exact ih0 _ _
      | exact ih1 _ _ _
      | exact ih2 _ _ _ _
      | exact ih3 _ _ _ _
      | exact LeO.none _
      | refine LeO.ite ?_ ?_
      | refine LeO.bind ?_ (fun _ => ?_)
theorem vireolaw26_tried.mono : ∀ a0 k, LeO (vireolaw26_tried.f k a0) (vireolaw26_tried.f (k + 1) a0) := by
  intro a0 k
  obtain ⟨ih0, ih1, ih2, ih3⟩ := vireolaw26_tried.mono_l k
  unfold vireolaw26_tried.f
  repeat' first
      | (with_reducible exact ih0 _ _)
      | (with_reducible exact ih1 _ _ _)
      | (with_reducible exact ih2 _ _ _ _)
      | (with_reducible exact ih3 _ _ _ _)
      | (with_reducible exact LeO.refl _)
      | (with_reducible exact LeO.none _)
      | (with_reducible refine LeO.ite ?_ ?_)
      | (with_reducible refine LeO.bind ?_ (fun _ => ?_))
      | exact ih0 _ _
      | exact ih1 _ _ _
      | exact ih2 _ _ _ _
      | exact ih3 _ _ _ _
      | exact LeO.none _
      | refine LeO.ite ?_ ?_
      | refine LeO.bind ?_ (fun _ => ?_)
set_option maxHeartbeats 8000000 in
set_option maxRecDepth 100000 in
theorem vireolaw26_tried.calls (k : Nat) (A0 : Option Addr) (c0 : Nat) (l0 : List (S50)) (r : Bool) (w : World) (hr0 : Kd.C k50 w A0 l0.length l0) (hc0 : l0.length ≤ c0) (h : vireolaw26_tried.f k l0 = some r) :
    Calls Try.prog 10 #[.slice A0 l0.length c0] w fun e w' => e = .returned (.bool r) ∧ Drawn0 w w' := by
  have HR0 := Aside0.mk hr0
  have HC0 := Aside0.mk hc0
  clear hr0 hc0
  have H : (if (l0.length : Int) < 1 then (vireolaw26_tried.j0 k l0 true) else (if (l0.length : Int) > 70 then (vireolaw26_tried.j0 k l0 true) else (if 0 < (l0.length : Int) then (vireolaw26_tried.j0 k l0 (((rd_T50 l0 0).f0) != (-1))) else (none)))) = some r := h
  clear h
  have HC2 := Aside0.mk H
  clear H
  go_enter Try.func10, Try.ntmps10
  go_upto_region 1 with (fail)
  go_cut [20] (fun v20 wc => ∃ (kq : Nat) (x20_1 : Bool), v20 = .bool x20_1 ∧ Aside0 (vireolaw26_tried.j0 kq l0 x20_1 = some r) ∧ Aside0 (kq ≤ k) ∧ Drawn0 w wc)
  case first =>
    have H := HC2.out
    clear HC2
    by_cases c3 : (l0.length : Int) < 1
    · rw [if_pos c3] at H
      have c3b0 : decide ((l0.length : Int) < 1) = true := decide_eq_true c3
      have c3b1 : decide (l0.length < 1) = true := decide_eq_true (by omega)
      clear c3
      (first | rw [c3b0] | (simp only [i64_w, i32_w]; rw [c3b0]) | skip)
      have H' := Aside0.mk H
      clear H
      go_wp2
      go_meet
      case rel => exact ⟨_, (true), (by first | rfl | (simp; done) | (simp [*]; done) | (exfalso; simp_all; done)), H', ⟨by first | omega | exact Nat.le_refl _⟩, by repeat (first | exact Drawn0.refl _ | apply Drawn0.step)⟩
    · rw [if_neg c3] at H
      have c3b0 : decide ((l0.length : Int) < 1) = false := decide_eq_false c3
      have c3b1 : decide (l0.length < 1) = false := decide_eq_false (by omega)
      clear c3
      (first | rw [c3b0] | (simp only [i64_w, i32_w]; rw [c3b0]) | skip)
      by_cases c4 : (l0.length : Int) > 70
      · rw [if_pos c4] at H
        have c4b0 : decide (70 < (l0.length : Int)) = true := decide_eq_true c4
        have c4b1 : decide (70 < l0.length) = true := decide_eq_true (by omega)
        clear c4
        have H' := Aside0.mk H
        clear H
        go_wp2
        go_meet
        case rel => exact ⟨_, (true), (by first | rfl | (simp; done) | (simp [*]; done) | (exfalso; simp_all; done)), H', ⟨by first | omega | exact Nat.le_refl _⟩, by repeat (first | exact Drawn0.refl _ | apply Drawn0.step)⟩
      · rw [if_neg c4] at H
        have c4b0 : decide (70 < (l0.length : Int)) = false := decide_eq_false c4
        have c4b1 : decide (70 < l0.length) = false := decide_eq_false (by omega)
        clear c4
        by_cases c5 : 0 < (l0.length : Int)
        · rw [if_pos c5] at H
          have c5b0 : decide (0 < (l0.length : Int)) = true := decide_eq_true c5
          have c5b1 : decide (0 < l0.length) = true := decide_eq_true (by omega)
          clear c5
          have H' := Aside0.mk H
          clear H
          have p134 : 0 ≤ (0 : Int) := (by omega)
          have q134 : 0 < (l0.length : Int) := of_decide_eq_true (by first | (with_reducible assumption) | assumption)
          obtain ⟨ad134, A134_2, c134_2, e134, hx134_0, hx134_1, hx134_2, hl134_2, hi134_2⟩ := at_T50 HR0.out 0 p134 q134
          cases e134
          have qi134 : (0 < l0.length) = True := eq_true (by omega)
          (try rw [show ((0 : Int)).toNat = 0 from rfl] at hx134_0)
          (try rw [show 0 * 3 = 0 from rfl] at hx134_0)
          (try rw [Addr.add_zero'] at hx134_0)
          (try rw [show ((0 : Int)).toNat = 0 from rfl] at hx134_1)
          (try rw [show 0 * 3 = 0 from rfl] at hx134_1)
          (try rw [Addr.add_zero'] at hx134_1)
          (try rw [show ((0 : Int)).toNat = 0 from rfl] at hx134_2)
          (try rw [show 0 * 3 = 0 from rfl] at hx134_2)
          (try rw [Addr.add_zero'] at hx134_2)
          have HR134_2 := Aside0.mk hi134_2
          have HC134_2 := Aside0.mk hl134_2
          clear hi134_2 hl134_2
          replace p134 := eq_true p134
          replace q134 := eq_true q134
          go_wp2
          go_meet
          case rel => exact ⟨_, ((((rd_T50 l0 0).f0) != (-1))), (by first | rfl | (simp; done) | (simp [*]; done) | (exfalso; simp_all; done)), H', ⟨by first | omega | exact Nat.le_refl _⟩, by repeat (first | exact Drawn0.refl _ | apply Drawn0.step)⟩
        · rw [if_neg c5] at H
          exact absurd H (by simp)
  case rest =>
    clear HC2
    try clear c1
    try clear p1
    try clear q1
    try clear hx1
    try clear qi1
    try clear p2
    try clear c3
    try clear c3b0
    try clear c3b1
    try clear c4
    try clear c4b0
    try clear c4b1
    try clear c5
    try clear c5b0
    try clear c5b1
    try clear hx134_0
    try clear hx134_1
    try clear hx134_2
    try clear p134
    try clear q134
    obtain ⟨kq, x20_1, rfl, HA, HJ1, ⟨mc1, rfl⟩⟩ := hcut
    cases kq with
    | zero => exact absurd HA.out (by simp [vireolaw26_tried.j0])
    | succ kj1 =>
      have H := HA.out
      clear HA
      simp only [vireolaw26_tried.j0] at H
      by_cases c6 : x20_1 = true
      · subst c6
        have H1 : (some false) = some r := by rw [if_pos rfl] at H; exact H
        clear H
        have H := H1
        clear H1
        obtain rfl := Option.some.inj H
        go_wp2
        go_ret
        exact ⟨by first | rfl | (simp; done) | (simp [*]; done) | (exfalso; simp_all; done), by repeat (first | exact Drawn0.refl _ | apply Drawn0.step)⟩
      · replace c6 := Bool.eq_false_iff.mpr c6
        subst c6
        have H1 : (vireolaw26_tried.l0 kj1 l0 0 0) = some r := by rw [if_neg (show ¬ (false = true) by decide)] at H; exact H
        clear H
        have H := H1
        clear H1
        have H' := Aside0.mk H
        clear H
        go_wp2
        go_loopg [3, 4] kj1 (fun kq v3 v4 w' => ∃ (x3_2 : Int) (x4_2 : Int), v3 = .int .i64 x3_2 ∧ v4 = .int .i64 x4_2 ∧ Aside0 (vireolaw26_tried.l0 kq l0 x3_2 x4_2 = some r) ∧ Aside0 (kq ≤ kj1) ∧ Drawn0 w w')
        case atStart => exact ⟨(0), (0), (by first | rfl | (simp; done) | (simp [*]; done) | (exfalso; simp_all; done)), (by first | rfl | (simp; done) | (simp [*]; done) | (exfalso; simp_all; done)), H', ⟨Nat.le_refl _⟩, by repeat (first | exact Drawn0.refl _ | apply Drawn0.step)⟩
        case round =>
          clear H'
          try clear c1
          try clear p1
          try clear q1
          try clear hx1
          try clear qi1
          try clear p2
          try clear c3
          try clear c3b0
          try clear c3b1
          try clear c4
          try clear c4b0
          try clear c4b1
          try clear c5
          try clear c5b0
          try clear c5b1
          try clear c6
          try clear hx134_0
          try clear hx134_1
          try clear hx134_2
          try clear p1
          try clear p134
          try clear p2
          try clear q1
          try clear q134
          obtain ⟨x3_2, x4_2, rfl, rfl, HA, HK2, ⟨m2, rfl⟩⟩ := hrel
          cases gk with
          | zero => exact absurd HA.out (by simp [vireolaw26_tried.l0])
          | succ k2 =>
            have H := HA.out
            clear HA
            simp only [vireolaw26_tried.l0] at H
            by_cases c7 : x4_2 < (l0.length : Int)
            · rw [if_pos c7] at H
              have c7b0 : decide (x4_2 < (l0.length : Int)) = true := decide_eq_true c7
              clear c7
              have HC8 := Aside0.mk H
              clear H
              go_upto_region 7 with (fail)
              go_cut [63] (fun v63 wc => ∃ (kq : Nat) (x63_7 : Bool), v63 = .bool x63_7 ∧ Aside0 (vireolaw26_tried.j2 kq l0 x3_2 x4_2 x63_7 = some r) ∧ Aside0 (kq ≤ k2) ∧ Drawn0 w wc)
              case first =>
                have H := HC8.out
                clear HC8
                by_cases c9 : x4_2 > 0
                · rw [if_pos c9] at H
                  have c9b0 : decide (0 < x4_2) = true := decide_eq_true c9
                  clear c9
                  (first | rw [c9b0] | (simp only [i64_w, i32_w]; rw [c9b0]) | skip)
                  by_cases c10 : 0 ≤ x4_2
                  · rw [if_pos c10] at H
                    have c10b0 : decide (0 ≤ x4_2) = true := decide_eq_true c10
                    clear c10
                    by_cases c11 : ((rd_T50 l0 x4_2).f0) < 0
                    · rw [if_pos c11] at H
                      have c11b0 : decide (((rd_T50 l0 x4_2).f0) < 0) = true := decide_eq_true c11
                      clear c11
                      have H' := Aside0.mk H
                      clear H
                      have p135 : 0 ≤ (x4_2 : Int) := of_decide_eq_true (by first | (with_reducible assumption) | assumption)
                      have q135 : x4_2 < (l0.length : Int) := of_decide_eq_true (by first | (with_reducible assumption) | assumption)
                      obtain ⟨ad135, A135_2, c135_2, e135, hx135_0, hx135_1, hx135_2, hl135_2, hi135_2⟩ := at_T50 HR0.out x4_2 p135 q135
                      cases e135
                      have HR135_2 := Aside0.mk hi135_2
                      have HC135_2 := Aside0.mk hl135_2
                      clear hi135_2 hl135_2
                      replace p135 := eq_true p135
                      replace q135 := eq_true q135
                      go_wp2
                      go_meet
                      case rel => exact ⟨_, (true), (by first | rfl | (simp; done) | (simp [*]; done) | (exfalso; simp_all; done)), H', ⟨by have := HJ1.out; have := HK2.out; first | omega | exact Nat.le_refl _⟩, by repeat (first | exact Drawn0.refl _ | apply Drawn0.step)⟩
                    · rw [if_neg c11] at H
                      have c11b0 : decide (((rd_T50 l0 x4_2).f0) < 0) = false := decide_eq_false c11
                      clear c11
                      by_cases c12 : ((rd_T50 l0 x4_2).f0) ≥ x4_2
                      · rw [if_pos c12] at H
                        have c12b0 : decide (x4_2 ≤ ((rd_T50 l0 x4_2).f0)) = true := decide_eq_true c12
                        clear c12
                        have H' := Aside0.mk H
                        clear H
                        have p135 : 0 ≤ (x4_2 : Int) := of_decide_eq_true (by first | (with_reducible assumption) | assumption)
                        have q135 : x4_2 < (l0.length : Int) := of_decide_eq_true (by first | (with_reducible assumption) | assumption)
                        obtain ⟨ad135, A135_2, c135_2, e135, hx135_0, hx135_1, hx135_2, hl135_2, hi135_2⟩ := at_T50 HR0.out x4_2 p135 q135
                        cases e135
                        have HR135_2 := Aside0.mk hi135_2
                        have HC135_2 := Aside0.mk hl135_2
                        clear hi135_2 hl135_2
                        replace p135 := eq_true p135
                        replace q135 := eq_true q135
                        have p136 : 0 ≤ (x4_2 : Int) := of_decide_eq_true (by first | (with_reducible assumption) | assumption)
                        have q136 : x4_2 < (l0.length : Int) := of_decide_eq_true (by first | (with_reducible assumption) | assumption)
                        obtain ⟨ad136, A136_2, c136_2, e136, hx136_0, hx136_1, hx136_2, hl136_2, hi136_2⟩ := at_T50 HR0.out x4_2 p136 q136
                        obtain rfl : ad135 = ad136 := (by injection e136)
                        have HR136_2 := Aside0.mk hi136_2
                        have HC136_2 := Aside0.mk hl136_2
                        clear hi136_2 hl136_2
                        replace p136 := eq_true p136
                        replace q136 := eq_true q136
                        have ea_ := Option.some.inj (hx135_2.symm.trans hx136_2)
                        injection ea_ with ea_ en_ ec_
                        subst ea_
                        subst ec_
                        clear en_
                        go_wp2
                        go_meet
                        case rel => exact ⟨_, (true), (by first | rfl | (simp; done) | (simp [*]; done) | (exfalso; simp_all; done)), H', ⟨by have := HJ1.out; have := HK2.out; first | omega | exact Nat.le_refl _⟩, by repeat (first | exact Drawn0.refl _ | apply Drawn0.step)⟩
                      · rw [if_neg c12] at H
                        have c12b0 : decide (x4_2 ≤ ((rd_T50 l0 x4_2).f0)) = false := decide_eq_false c12
                        clear c12
                        by_cases c13 : (((rd_T50 l0 x4_2).f1).size : Int) > 40
                        · rw [if_pos c13] at H
                          have c13b0 : decide (40 < (((rd_T50 l0 x4_2).f1).size : Int)) = true := decide_eq_true c13
                          have c13b1 : decide (40 < ((rd_T50 l0 x4_2).f1).size) = true := decide_eq_true (by omega)
                          clear c13
                          have H' := Aside0.mk H
                          clear H
                          have p135 : 0 ≤ (x4_2 : Int) := of_decide_eq_true (by first | (with_reducible assumption) | assumption)
                          have q135 : x4_2 < (l0.length : Int) := of_decide_eq_true (by first | (with_reducible assumption) | assumption)
                          obtain ⟨ad135, A135_2, c135_2, e135, hx135_0, hx135_1, hx135_2, hl135_2, hi135_2⟩ := at_T50 HR0.out x4_2 p135 q135
                          cases e135
                          have HR135_2 := Aside0.mk hi135_2
                          have HC135_2 := Aside0.mk hl135_2
                          clear hi135_2 hl135_2
                          replace p135 := eq_true p135
                          replace q135 := eq_true q135
                          have p136 : 0 ≤ (x4_2 : Int) := of_decide_eq_true (by first | (with_reducible assumption) | assumption)
                          have q136 : x4_2 < (l0.length : Int) := of_decide_eq_true (by first | (with_reducible assumption) | assumption)
                          obtain ⟨ad136, A136_2, c136_2, e136, hx136_0, hx136_1, hx136_2, hl136_2, hi136_2⟩ := at_T50 HR0.out x4_2 p136 q136
                          obtain rfl : ad135 = ad136 := (by injection e136)
                          have HR136_2 := Aside0.mk hi136_2
                          have HC136_2 := Aside0.mk hl136_2
                          clear hi136_2 hl136_2
                          replace p136 := eq_true p136
                          replace q136 := eq_true q136
                          have ea_ := Option.some.inj (hx135_2.symm.trans hx136_2)
                          injection ea_ with ea_ en_ ec_
                          subst ea_
                          subst ec_
                          clear en_
                          have p137 : 0 ≤ (x4_2 : Int) := of_decide_eq_true (by first | (with_reducible assumption) | assumption)
                          have q137 : x4_2 < (l0.length : Int) := of_decide_eq_true (by first | (with_reducible assumption) | assumption)
                          obtain ⟨ad137, A137_2, c137_2, e137, hx137_0, hx137_1, hx137_2, hl137_2, hi137_2⟩ := at_T50 HR0.out x4_2 p137 q137
                          obtain rfl : ad135 = ad137 := (by injection e137)
                          have HR137_2 := Aside0.mk hi137_2
                          have HC137_2 := Aside0.mk hl137_2
                          clear hi137_2 hl137_2
                          replace p137 := eq_true p137
                          replace q137 := eq_true q137
                          have ea_ := Option.some.inj (hx135_2.symm.trans hx137_2)
                          injection ea_ with ea_ en_ ec_
                          subst ea_
                          subst ec_
                          clear en_
                          go_wp2
                          go_meet
                          case rel => exact ⟨_, (true), (by first | rfl | (simp; done) | (simp [*]; done) | (exfalso; simp_all; done)), H', ⟨by have := HJ1.out; have := HK2.out; first | omega | exact Nat.le_refl _⟩, by repeat (first | exact Drawn0.refl _ | apply Drawn0.step)⟩
                        · rw [if_neg c13] at H
                          have c13b0 : decide (40 < (((rd_T50 l0 x4_2).f1).size : Int)) = false := decide_eq_false c13
                          have c13b1 : decide (40 < ((rd_T50 l0 x4_2).f1).size) = false := decide_eq_false (by omega)
                          clear c13
                          have H' := Aside0.mk H
                          clear H
                          have p135 : 0 ≤ (x4_2 : Int) := of_decide_eq_true (by first | (with_reducible assumption) | assumption)
                          have q135 : x4_2 < (l0.length : Int) := of_decide_eq_true (by first | (with_reducible assumption) | assumption)
                          obtain ⟨ad135, A135_2, c135_2, e135, hx135_0, hx135_1, hx135_2, hl135_2, hi135_2⟩ := at_T50 HR0.out x4_2 p135 q135
                          cases e135
                          have HR135_2 := Aside0.mk hi135_2
                          have HC135_2 := Aside0.mk hl135_2
                          clear hi135_2 hl135_2
                          replace p135 := eq_true p135
                          replace q135 := eq_true q135
                          have p136 : 0 ≤ (x4_2 : Int) := of_decide_eq_true (by first | (with_reducible assumption) | assumption)
                          have q136 : x4_2 < (l0.length : Int) := of_decide_eq_true (by first | (with_reducible assumption) | assumption)
                          obtain ⟨ad136, A136_2, c136_2, e136, hx136_0, hx136_1, hx136_2, hl136_2, hi136_2⟩ := at_T50 HR0.out x4_2 p136 q136
                          obtain rfl : ad135 = ad136 := (by injection e136)
                          have HR136_2 := Aside0.mk hi136_2
                          have HC136_2 := Aside0.mk hl136_2
                          clear hi136_2 hl136_2
                          replace p136 := eq_true p136
                          replace q136 := eq_true q136
                          have ea_ := Option.some.inj (hx135_2.symm.trans hx136_2)
                          injection ea_ with ea_ en_ ec_
                          subst ea_
                          subst ec_
                          clear en_
                          have p137 : 0 ≤ (x4_2 : Int) := of_decide_eq_true (by first | (with_reducible assumption) | assumption)
                          have q137 : x4_2 < (l0.length : Int) := of_decide_eq_true (by first | (with_reducible assumption) | assumption)
                          obtain ⟨ad137, A137_2, c137_2, e137, hx137_0, hx137_1, hx137_2, hl137_2, hi137_2⟩ := at_T50 HR0.out x4_2 p137 q137
                          obtain rfl : ad135 = ad137 := (by injection e137)
                          have HR137_2 := Aside0.mk hi137_2
                          have HC137_2 := Aside0.mk hl137_2
                          clear hi137_2 hl137_2
                          replace p137 := eq_true p137
                          replace q137 := eq_true q137
                          have ea_ := Option.some.inj (hx135_2.symm.trans hx137_2)
                          injection ea_ with ea_ en_ ec_
                          subst ea_
                          subst ec_
                          clear en_
                          have p138 : 0 ≤ (x4_2 : Int) := of_decide_eq_true (by first | (with_reducible assumption) | assumption)
                          have q138 : x4_2 < (l0.length : Int) := of_decide_eq_true (by first | (with_reducible assumption) | assumption)
                          obtain ⟨ad138, A138_2, c138_2, e138, hx138_0, hx138_1, hx138_2, hl138_2, hi138_2⟩ := at_T50 HR0.out x4_2 p138 q138
                          obtain rfl : ad135 = ad138 := (by injection e138)
                          have HR138_2 := Aside0.mk hi138_2
                          have HC138_2 := Aside0.mk hl138_2
                          clear hi138_2 hl138_2
                          replace p138 := eq_true p138
                          replace q138 := eq_true q138
                          have ea_ := Option.some.inj (hx135_2.symm.trans hx138_2)
                          injection ea_ with ea_ en_ ec_
                          subst ea_
                          subst ec_
                          clear en_
                          go_wp2
                          go_meet
                          case rel => exact ⟨_, (decide ((((rd_T50 l0 x4_2).f2).length : Int) > 260)), (by first | rfl | (simp; done) | (simp [*]; done) | (exfalso; simp_all; done)), H', ⟨by have := HJ1.out; have := HK2.out; first | omega | exact Nat.le_refl _⟩, by repeat (first | exact Drawn0.refl _ | apply Drawn0.step)⟩
                  · rw [if_neg c10] at H
                    exact absurd H (by simp)
                · rw [if_neg c9] at H
                  have c9b0 : decide (0 < x4_2) = false := decide_eq_false c9
                  clear c9
                  (first | rw [c9b0] | (simp only [i64_w, i32_w]; rw [c9b0]) | skip)
                  by_cases c14 : 0 ≤ x4_2
                  · rw [if_pos c14] at H
                    have c14b0 : decide (0 ≤ x4_2) = true := decide_eq_true c14
                    clear c14
                    by_cases c15 : (((rd_T50 l0 x4_2).f1).size : Int) > 40
                    · rw [if_pos c15] at H
                      have c15b0 : decide (40 < (((rd_T50 l0 x4_2).f1).size : Int)) = true := decide_eq_true c15
                      have c15b1 : decide (40 < ((rd_T50 l0 x4_2).f1).size) = true := decide_eq_true (by omega)
                      clear c15
                      have H' := Aside0.mk H
                      clear H
                      have p139 : 0 ≤ (x4_2 : Int) := of_decide_eq_true (by first | (with_reducible assumption) | assumption)
                      have q139 : x4_2 < (l0.length : Int) := of_decide_eq_true (by first | (with_reducible assumption) | assumption)
                      obtain ⟨ad139, A139_2, c139_2, e139, hx139_0, hx139_1, hx139_2, hl139_2, hi139_2⟩ := at_T50 HR0.out x4_2 p139 q139
                      cases e139
                      have HR139_2 := Aside0.mk hi139_2
                      have HC139_2 := Aside0.mk hl139_2
                      clear hi139_2 hl139_2
                      replace p139 := eq_true p139
                      replace q139 := eq_true q139
                      go_wp2
                      go_meet
                      case rel => exact ⟨_, (true), (by first | rfl | (simp; done) | (simp [*]; done) | (exfalso; simp_all; done)), H', ⟨by have := HJ1.out; have := HK2.out; first | omega | exact Nat.le_refl _⟩, by repeat (first | exact Drawn0.refl _ | apply Drawn0.step)⟩
                    · rw [if_neg c15] at H
                      have c15b0 : decide (40 < (((rd_T50 l0 x4_2).f1).size : Int)) = false := decide_eq_false c15
                      have c15b1 : decide (40 < ((rd_T50 l0 x4_2).f1).size) = false := decide_eq_false (by omega)
                      clear c15
                      have H' := Aside0.mk H
                      clear H
                      have p139 : 0 ≤ (x4_2 : Int) := of_decide_eq_true (by first | (with_reducible assumption) | assumption)
                      have q139 : x4_2 < (l0.length : Int) := of_decide_eq_true (by first | (with_reducible assumption) | assumption)
                      obtain ⟨ad139, A139_2, c139_2, e139, hx139_0, hx139_1, hx139_2, hl139_2, hi139_2⟩ := at_T50 HR0.out x4_2 p139 q139
                      cases e139
                      have HR139_2 := Aside0.mk hi139_2
                      have HC139_2 := Aside0.mk hl139_2
                      clear hi139_2 hl139_2
                      replace p139 := eq_true p139
                      replace q139 := eq_true q139
                      have p140 : 0 ≤ (x4_2 : Int) := of_decide_eq_true (by first | (with_reducible assumption) | assumption)
                      have q140 : x4_2 < (l0.length : Int) := of_decide_eq_true (by first | (with_reducible assumption) | assumption)
                      obtain ⟨ad140, A140_2, c140_2, e140, hx140_0, hx140_1, hx140_2, hl140_2, hi140_2⟩ := at_T50 HR0.out x4_2 p140 q140
                      obtain rfl : ad139 = ad140 := (by injection e140)
                      have HR140_2 := Aside0.mk hi140_2
                      have HC140_2 := Aside0.mk hl140_2
                      clear hi140_2 hl140_2
                      replace p140 := eq_true p140
                      replace q140 := eq_true q140
                      have ea_ := Option.some.inj (hx139_2.symm.trans hx140_2)
                      injection ea_ with ea_ en_ ec_
                      subst ea_
                      subst ec_
                      clear en_
                      go_wp2
                      go_meet
                      case rel => exact ⟨_, (decide ((((rd_T50 l0 x4_2).f2).length : Int) > 260)), (by first | rfl | (simp; done) | (simp [*]; done) | (exfalso; simp_all; done)), H', ⟨by have := HJ1.out; have := HK2.out; first | omega | exact Nat.le_refl _⟩, by repeat (first | exact Drawn0.refl _ | apply Drawn0.step)⟩
                  · rw [if_neg c14] at H
                    exact absurd H (by simp)
              case rest =>
                clear HC8
                try clear c1
                try clear p1
                try clear q1
                try clear hx1
                try clear qi1
                try clear p2
                try clear c3
                try clear c3b0
                try clear c3b1
                try clear c4
                try clear c4b0
                try clear c4b1
                try clear c5
                try clear c5b0
                try clear c5b1
                try clear c6
                try clear c7
                try clear c7b0
                try clear c9
                try clear c9b0
                try clear c10
                try clear c10b0
                try clear c11
                try clear c11b0
                try clear c12
                try clear c12b0
                try clear c13
                try clear c13b0
                try clear c13b1
                try clear p13
                try clear q13
                try clear hx13
                try clear qi13
                try clear c14
                try clear c14b0
                try clear p14
                try clear q14
                try clear hx14
                try clear c15
                try clear c15b0
                try clear c15b1
                try clear hx134_0
                try clear hx134_1
                try clear hx134_2
                try clear hx135_0
                try clear hx135_1
                try clear hx135_2
                try clear hx136_0
                try clear hx136_1
                try clear hx136_2
                try clear hx137_0
                try clear hx137_1
                try clear hx137_2
                try clear hx138_0
                try clear hx138_1
                try clear hx138_2
                try clear hx139_0
                try clear hx139_1
                try clear hx139_2
                try clear hx140_0
                try clear hx140_1
                try clear hx140_2
                try clear p1
                try clear p134
                try clear p135
                try clear p136
                try clear p137
                try clear p138
                try clear p139
                try clear p140
                try clear p2
                try clear q1
                try clear q134
                try clear q135
                try clear q136
                try clear q137
                try clear q138
                try clear q139
                try clear q140
                obtain ⟨kq, x63_7, rfl, HA, HJ7, ⟨mc7, rfl⟩⟩ := hcut
                cases kq with
                | zero => exact absurd HA.out (by simp [vireolaw26_tried.j2])
                | succ kj7 =>
                  have H := HA.out
                  clear HA
                  simp only [vireolaw26_tried.j2] at H
                  by_cases c16 : x63_7 = true
                  · subst c16
                    have H1 : (some false) = some r := by rw [if_pos rfl] at H; exact H
                    clear H
                    have H := H1
                    clear H1
                    obtain rfl := Option.some.inj H
                    go_wp2
                    go_ret
                    exact ⟨by first | rfl | (simp; done) | (simp [*]; done) | (exfalso; simp_all; done), by repeat (first | exact Drawn0.refl _ | apply Drawn0.step)⟩
                  · replace c16 := Bool.eq_false_iff.mpr c16
                    subst c16
                    have H1 : (vireolaw26_tried.l1 kj7 l0 x3_2 x4_2 0) = some r := by rw [if_neg (show ¬ (false = true) by decide)] at H; exact H
                    clear H
                    have H := H1
                    clear H1
                    have H' := Aside0.mk H
                    clear H
                    go_wp2
                    go_loopg [3, 5] kj7 (fun kq v3 v5 w' => ∃ (x3_4 : Int) (x5_4 : Int), v3 = .int .i64 x3_4 ∧ v5 = .int .i64 x5_4 ∧ Aside0 (vireolaw26_tried.l1 kq l0 x3_4 x4_2 x5_4 = some r) ∧ Aside0 (kq ≤ kj7) ∧ Drawn0 w w')
                    case atStart => exact ⟨(x3_2), (0), (by first | rfl | (simp; done) | (simp [*]; done) | (exfalso; simp_all; done)), (by first | rfl | (simp; done) | (simp [*]; done) | (exfalso; simp_all; done)), H', ⟨Nat.le_refl _⟩, by repeat (first | exact Drawn0.refl _ | apply Drawn0.step)⟩
                    case round =>
                      clear H'
                      try clear c1
                      try clear p1
                      try clear q1
                      try clear hx1
                      try clear qi1
                      try clear p2
                      try clear c3
                      try clear c3b0
                      try clear c3b1
                      try clear c4
                      try clear c4b0
                      try clear c4b1
                      try clear c5
                      try clear c5b0
                      try clear c5b1
                      try clear c6
                      try clear c7
                      try clear c7b0
                      try clear c9
                      try clear c9b0
                      try clear c10
                      try clear c10b0
                      try clear c11
                      try clear c11b0
                      try clear c12
                      try clear c12b0
                      try clear c13
                      try clear c13b0
                      try clear c13b1
                      try clear p13
                      try clear q13
                      try clear hx13
                      try clear qi13
                      try clear c14
                      try clear c14b0
                      try clear p14
                      try clear q14
                      try clear hx14
                      try clear c15
                      try clear c15b0
                      try clear c15b1
                      try clear c16
                      try clear hx134_0
                      try clear hx134_1
                      try clear hx134_2
                      try clear hx135_0
                      try clear hx135_1
                      try clear hx135_2
                      try clear hx136_0
                      try clear hx136_1
                      try clear hx136_2
                      try clear hx137_0
                      try clear hx137_1
                      try clear hx137_2
                      try clear hx138_0
                      try clear hx138_1
                      try clear hx138_2
                      try clear hx139_0
                      try clear hx139_1
                      try clear hx139_2
                      try clear hx140_0
                      try clear hx140_1
                      try clear hx140_2
                      try clear p1
                      try clear p13
                      try clear p134
                      try clear p135
                      try clear p136
                      try clear p137
                      try clear p138
                      try clear p139
                      try clear p14
                      try clear p140
                      try clear p2
                      try clear q1
                      try clear q13
                      try clear q134
                      try clear q135
                      try clear q136
                      try clear q137
                      try clear q138
                      try clear q139
                      try clear q14
                      try clear q140
                      obtain ⟨x3_4, x5_4, rfl, rfl, HA, HK4, ⟨m4, rfl⟩⟩ := hrel
                      cases gk with
                      | zero => exact absurd HA.out (by simp [vireolaw26_tried.l1])
                      | succ k4 =>
                        have H := HA.out
                        clear HA
                        simp only [vireolaw26_tried.l1] at H
                        by_cases c17 : 0 ≤ x4_2
                        · rw [if_pos c17] at H
                          have c17b0 : decide (0 ≤ x4_2) = true := decide_eq_true c17
                          clear c17
                          by_cases c18 : x4_2 < (l0.length : Int)
                          · rw [if_pos c18] at H
                            have c18b0 : decide (x4_2 < (l0.length : Int)) = true := decide_eq_true c18
                            clear c18
                            by_cases c19 : x5_4 < (((rd_T50 l0 x4_2).f2).length : Int)
                            · rw [if_pos c19] at H
                              have c19b0 : decide (x5_4 < (((rd_T50 l0 x4_2).f2).length : Int)) = true := decide_eq_true c19
                              clear c19
                              by_cases c20 : 0 ≤ x5_4
                              · rw [if_pos c20] at H
                                have c20b0 : decide (0 ≤ x5_4) = true := decide_eq_true c20
                                clear c20
                                by_cases c21 : (((rd_T55 ((rd_T50 l0 x4_2).f2) x5_4).f1).length : Int) > 5000
                                · rw [if_pos c21] at H
                                  have c21b0 : decide (5000 < (((rd_T55 ((rd_T50 l0 x4_2).f2) x5_4).f1).length : Int)) = true := decide_eq_true c21
                                  have c21b1 : decide (5000 < ((rd_T55 ((rd_T50 l0 x4_2).f2) x5_4).f1).length) = true := decide_eq_true (by omega)
                                  clear c21
                                  obtain rfl := Option.some.inj H
                                  have p141 : 0 ≤ (x4_2 : Int) := of_decide_eq_true (by first | (with_reducible assumption) | assumption)
                                  have q141 : x4_2 < (l0.length : Int) := of_decide_eq_true (by first | (with_reducible assumption) | assumption)
                                  obtain ⟨ad141, A141_2, c141_2, e141, hx141_0, hx141_1, hx141_2, hl141_2, hi141_2⟩ := at_T50 HR0.out x4_2 p141 q141
                                  cases e141
                                  have HR141_2 := Aside0.mk hi141_2
                                  have HC141_2 := Aside0.mk hl141_2
                                  clear hi141_2 hl141_2
                                  replace p141 := eq_true p141
                                  replace q141 := eq_true q141
                                  have p142 : 0 ≤ (x4_2 : Int) := of_decide_eq_true (by first | (with_reducible assumption) | assumption)
                                  have q142 : x4_2 < (l0.length : Int) := of_decide_eq_true (by first | (with_reducible assumption) | assumption)
                                  obtain ⟨ad142, A142_2, c142_2, e142, hx142_0, hx142_1, hx142_2, hl142_2, hi142_2⟩ := at_T50 HR0.out x4_2 p142 q142
                                  obtain rfl : ad141 = ad142 := (by injection e142)
                                  have HR142_2 := Aside0.mk hi142_2
                                  have HC142_2 := Aside0.mk hl142_2
                                  clear hi142_2 hl142_2
                                  replace p142 := eq_true p142
                                  replace q142 := eq_true q142
                                  have ea_ := Option.some.inj (hx141_2.symm.trans hx142_2)
                                  injection ea_ with ea_ en_ ec_
                                  subst ea_
                                  subst ec_
                                  clear en_
                                  have p143 : 0 ≤ (x5_4 : Int) := of_decide_eq_true (by first | (with_reducible assumption) | assumption)
                                  have q143 : x5_4 < (((rd_T50 l0 x4_2).f2).length : Int) := of_decide_eq_true (by first | (with_reducible assumption) | assumption)
                                  obtain ⟨ad143, A143_1, c143_1, e143, hx143_0, hx143_1, hl143_1, hi143_1⟩ := at_T55 HR142_2.out x5_4 p143 q143
                                  cases e143
                                  have HR143_1 := Aside0.mk hi143_1
                                  have HC143_1 := Aside0.mk hl143_1
                                  clear hi143_1 hl143_1
                                  replace p143 := eq_true p143
                                  replace q143 := eq_true q143
                                  go_wp2
                                  go_ret
                                  exact ⟨by first | rfl | (simp; done) | (simp [*]; done) | (exfalso; simp_all; done), by repeat (first | exact Drawn0.refl _ | apply Drawn0.step)⟩
                                · rw [if_neg c21] at H
                                  have c21b0 : decide (5000 < (((rd_T55 ((rd_T50 l0 x4_2).f2) x5_4).f1).length : Int)) = false := decide_eq_false c21
                                  have c21b1 : decide (5000 < ((rd_T55 ((rd_T50 l0 x4_2).f2) x5_4).f1).length) = false := decide_eq_false (by omega)
                                  clear c21
                                  by_cases c22 : (((rd_T55 ((rd_T50 l0 x4_2).f2) x5_4).f0).size : Int) > 40
                                  · rw [if_pos c22] at H
                                    have c22b0 : decide (40 < (((rd_T55 ((rd_T50 l0 x4_2).f2) x5_4).f0).size : Int)) = true := decide_eq_true c22
                                    have c22b1 : decide (40 < ((rd_T55 ((rd_T50 l0 x4_2).f2) x5_4).f0).size) = true := decide_eq_true (by omega)
                                    clear c22
                                    obtain rfl := Option.some.inj H
                                    have p141 : 0 ≤ (x4_2 : Int) := of_decide_eq_true (by first | (with_reducible assumption) | assumption)
                                    have q141 : x4_2 < (l0.length : Int) := of_decide_eq_true (by first | (with_reducible assumption) | assumption)
                                    obtain ⟨ad141, A141_2, c141_2, e141, hx141_0, hx141_1, hx141_2, hl141_2, hi141_2⟩ := at_T50 HR0.out x4_2 p141 q141
                                    cases e141
                                    have HR141_2 := Aside0.mk hi141_2
                                    have HC141_2 := Aside0.mk hl141_2
                                    clear hi141_2 hl141_2
                                    replace p141 := eq_true p141
                                    replace q141 := eq_true q141
                                    have p142 : 0 ≤ (x4_2 : Int) := of_decide_eq_true (by first | (with_reducible assumption) | assumption)
                                    have q142 : x4_2 < (l0.length : Int) := of_decide_eq_true (by first | (with_reducible assumption) | assumption)
                                    obtain ⟨ad142, A142_2, c142_2, e142, hx142_0, hx142_1, hx142_2, hl142_2, hi142_2⟩ := at_T50 HR0.out x4_2 p142 q142
                                    obtain rfl : ad141 = ad142 := (by injection e142)
                                    have HR142_2 := Aside0.mk hi142_2
                                    have HC142_2 := Aside0.mk hl142_2
                                    clear hi142_2 hl142_2
                                    replace p142 := eq_true p142
                                    replace q142 := eq_true q142
                                    have ea_ := Option.some.inj (hx141_2.symm.trans hx142_2)
                                    injection ea_ with ea_ en_ ec_
                                    subst ea_
                                    subst ec_
                                    clear en_
                                    have p143 : 0 ≤ (x5_4 : Int) := of_decide_eq_true (by first | (with_reducible assumption) | assumption)
                                    have q143 : x5_4 < (((rd_T50 l0 x4_2).f2).length : Int) := of_decide_eq_true (by first | (with_reducible assumption) | assumption)
                                    obtain ⟨ad143, A143_1, c143_1, e143, hx143_0, hx143_1, hl143_1, hi143_1⟩ := at_T55 HR142_2.out x5_4 p143 q143
                                    cases e143
                                    have HR143_1 := Aside0.mk hi143_1
                                    have HC143_1 := Aside0.mk hl143_1
                                    clear hi143_1 hl143_1
                                    replace p143 := eq_true p143
                                    replace q143 := eq_true q143
                                    have p144 : 0 ≤ (x4_2 : Int) := of_decide_eq_true (by first | (with_reducible assumption) | assumption)
                                    have q144 : x4_2 < (l0.length : Int) := of_decide_eq_true (by first | (with_reducible assumption) | assumption)
                                    obtain ⟨ad144, A144_2, c144_2, e144, hx144_0, hx144_1, hx144_2, hl144_2, hi144_2⟩ := at_T50 HR0.out x4_2 p144 q144
                                    obtain rfl : ad141 = ad144 := (by injection e144)
                                    have HR144_2 := Aside0.mk hi144_2
                                    have HC144_2 := Aside0.mk hl144_2
                                    clear hi144_2 hl144_2
                                    replace p144 := eq_true p144
                                    replace q144 := eq_true q144
                                    have ea_ := Option.some.inj (hx141_2.symm.trans hx144_2)
                                    injection ea_ with ea_ en_ ec_
                                    subst ea_
                                    subst ec_
                                    clear en_
                                    have p145 : 0 ≤ (x5_4 : Int) := of_decide_eq_true (by first | (with_reducible assumption) | assumption)
                                    have q145 : x5_4 < (((rd_T50 l0 x4_2).f2).length : Int) := of_decide_eq_true (by first | (with_reducible assumption) | assumption)
                                    obtain ⟨ad145, A145_1, c145_1, e145, hx145_0, hx145_1, hl145_1, hi145_1⟩ := at_T55 HR144_2.out x5_4 p145 q145
                                    cases e145
                                    have HR145_1 := Aside0.mk hi145_1
                                    have HC145_1 := Aside0.mk hl145_1
                                    clear hi145_1 hl145_1
                                    replace p145 := eq_true p145
                                    replace q145 := eq_true q145
                                    go_wp2
                                    go_ret
                                    exact ⟨by first | rfl | (simp; done) | (simp [*]; done) | (exfalso; simp_all; done), by repeat (first | exact Drawn0.refl _ | apply Drawn0.step)⟩
                                  · rw [if_neg c22] at H
                                    have c22b0 : decide (40 < (((rd_T55 ((rd_T50 l0 x4_2).f2) x5_4).f0).size : Int)) = false := decide_eq_false c22
                                    have c22b1 : decide (40 < ((rd_T55 ((rd_T50 l0 x4_2).f2) x5_4).f0).size) = false := decide_eq_false (by omega)
                                    clear c22
                                    have H' := Aside0.mk H
                                    clear H
                                    have p141 : 0 ≤ (x4_2 : Int) := of_decide_eq_true (by first | (with_reducible assumption) | assumption)
                                    have q141 : x4_2 < (l0.length : Int) := of_decide_eq_true (by first | (with_reducible assumption) | assumption)
                                    obtain ⟨ad141, A141_2, c141_2, e141, hx141_0, hx141_1, hx141_2, hl141_2, hi141_2⟩ := at_T50 HR0.out x4_2 p141 q141
                                    cases e141
                                    have HR141_2 := Aside0.mk hi141_2
                                    have HC141_2 := Aside0.mk hl141_2
                                    clear hi141_2 hl141_2
                                    replace p141 := eq_true p141
                                    replace q141 := eq_true q141
                                    have p142 : 0 ≤ (x4_2 : Int) := of_decide_eq_true (by first | (with_reducible assumption) | assumption)
                                    have q142 : x4_2 < (l0.length : Int) := of_decide_eq_true (by first | (with_reducible assumption) | assumption)
                                    obtain ⟨ad142, A142_2, c142_2, e142, hx142_0, hx142_1, hx142_2, hl142_2, hi142_2⟩ := at_T50 HR0.out x4_2 p142 q142
                                    obtain rfl : ad141 = ad142 := (by injection e142)
                                    have HR142_2 := Aside0.mk hi142_2
                                    have HC142_2 := Aside0.mk hl142_2
                                    clear hi142_2 hl142_2
                                    replace p142 := eq_true p142
                                    replace q142 := eq_true q142
                                    have ea_ := Option.some.inj (hx141_2.symm.trans hx142_2)
                                    injection ea_ with ea_ en_ ec_
                                    subst ea_
                                    subst ec_
                                    clear en_
                                    have p143 : 0 ≤ (x5_4 : Int) := of_decide_eq_true (by first | (with_reducible assumption) | assumption)
                                    have q143 : x5_4 < (((rd_T50 l0 x4_2).f2).length : Int) := of_decide_eq_true (by first | (with_reducible assumption) | assumption)
                                    obtain ⟨ad143, A143_1, c143_1, e143, hx143_0, hx143_1, hl143_1, hi143_1⟩ := at_T55 HR142_2.out x5_4 p143 q143
                                    cases e143
                                    have HR143_1 := Aside0.mk hi143_1
                                    have HC143_1 := Aside0.mk hl143_1
                                    clear hi143_1 hl143_1
                                    replace p143 := eq_true p143
                                    replace q143 := eq_true q143
                                    have p144 : 0 ≤ (x4_2 : Int) := of_decide_eq_true (by first | (with_reducible assumption) | assumption)
                                    have q144 : x4_2 < (l0.length : Int) := of_decide_eq_true (by first | (with_reducible assumption) | assumption)
                                    obtain ⟨ad144, A144_2, c144_2, e144, hx144_0, hx144_1, hx144_2, hl144_2, hi144_2⟩ := at_T50 HR0.out x4_2 p144 q144
                                    obtain rfl : ad141 = ad144 := (by injection e144)
                                    have HR144_2 := Aside0.mk hi144_2
                                    have HC144_2 := Aside0.mk hl144_2
                                    clear hi144_2 hl144_2
                                    replace p144 := eq_true p144
                                    replace q144 := eq_true q144
                                    have ea_ := Option.some.inj (hx141_2.symm.trans hx144_2)
                                    injection ea_ with ea_ en_ ec_
                                    subst ea_
                                    subst ec_
                                    clear en_
                                    have p145 : 0 ≤ (x5_4 : Int) := of_decide_eq_true (by first | (with_reducible assumption) | assumption)
                                    have q145 : x5_4 < (((rd_T50 l0 x4_2).f2).length : Int) := of_decide_eq_true (by first | (with_reducible assumption) | assumption)
                                    obtain ⟨ad145, A145_1, c145_1, e145, hx145_0, hx145_1, hl145_1, hi145_1⟩ := at_T55 HR144_2.out x5_4 p145 q145
                                    cases e145
                                    have HR145_1 := Aside0.mk hi145_1
                                    have HC145_1 := Aside0.mk hl145_1
                                    clear hi145_1 hl145_1
                                    replace p145 := eq_true p145
                                    replace q145 := eq_true q145
                                    have p146 : 0 ≤ (x4_2 : Int) := of_decide_eq_true (by first | (with_reducible assumption) | assumption)
                                    have q146 : x4_2 < (l0.length : Int) := of_decide_eq_true (by first | (with_reducible assumption) | assumption)
                                    obtain ⟨ad146, A146_2, c146_2, e146, hx146_0, hx146_1, hx146_2, hl146_2, hi146_2⟩ := at_T50 HR0.out x4_2 p146 q146
                                    obtain rfl : ad141 = ad146 := (by injection e146)
                                    have HR146_2 := Aside0.mk hi146_2
                                    have HC146_2 := Aside0.mk hl146_2
                                    clear hi146_2 hl146_2
                                    replace p146 := eq_true p146
                                    replace q146 := eq_true q146
                                    have ea_ := Option.some.inj (hx141_2.symm.trans hx146_2)
                                    injection ea_ with ea_ en_ ec_
                                    subst ea_
                                    subst ec_
                                    clear en_
                                    have p147 : 0 ≤ (x5_4 : Int) := of_decide_eq_true (by first | (with_reducible assumption) | assumption)
                                    have q147 : x5_4 < (((rd_T50 l0 x4_2).f2).length : Int) := of_decide_eq_true (by first | (with_reducible assumption) | assumption)
                                    obtain ⟨ad147, A147_1, c147_1, e147, hx147_0, hx147_1, hl147_1, hi147_1⟩ := at_T55 HR146_2.out x5_4 p147 q147
                                    cases e147
                                    have HR147_1 := Aside0.mk hi147_1
                                    have HC147_1 := Aside0.mk hl147_1
                                    clear hi147_1 hl147_1
                                    replace p147 := eq_true p147
                                    replace q147 := eq_true q147
                                    go_wp2
                                    go_roundg k4
                                    case measure => have := HJ1.out; have := HK2.out; have := HJ7.out; have := HK4.out; omega
                                    case rel => exact ⟨(wrap64 ((wrap64 (x3_4 + (((rd_T55 ((rd_T50 l0 x4_2).f2) x5_4).f1).length : Int))) + 1)), (wrap64 (x5_4 + 1)), (by first | rfl | (simp; done) | (simp [*]; done) | (exfalso; simp_all; done)), (by first | rfl | (simp; done) | (simp [*]; done) | (exfalso; simp_all; done)), H', ⟨by have := HJ1.out; have := HK2.out; have := HJ7.out; have := HK4.out; omega⟩, by repeat (first | exact Drawn0.refl _ | apply Drawn0.step)⟩
                              · rw [if_neg c20] at H
                                exact absurd H (by simp)
                            · rw [if_neg c19] at H
                              have c19b0 : decide (x5_4 < (((rd_T50 l0 x4_2).f2).length : Int)) = false := decide_eq_false c19
                              clear c19
                              have H' := Aside0.mk H
                              clear H
                              have p141 : 0 ≤ (x4_2 : Int) := of_decide_eq_true (by first | (with_reducible assumption) | assumption)
                              have q141 : x4_2 < (l0.length : Int) := of_decide_eq_true (by first | (with_reducible assumption) | assumption)
                              obtain ⟨ad141, A141_2, c141_2, e141, hx141_0, hx141_1, hx141_2, hl141_2, hi141_2⟩ := at_T50 HR0.out x4_2 p141 q141
                              cases e141
                              have HR141_2 := Aside0.mk hi141_2
                              have HC141_2 := Aside0.mk hl141_2
                              clear hi141_2 hl141_2
                              replace p141 := eq_true p141
                              replace q141 := eq_true q141
                              go_wp2
                              go_roundg k4
                              case measure => have := HJ1.out; have := HK2.out; have := HJ7.out; have := HK4.out; omega
                              case rel => exact ⟨(x3_4), (wrap64 (x4_2 + 1)), (by first | rfl | (simp; done) | (simp [*]; done) | (exfalso; simp_all; done)), (by first | rfl | (simp; done) | (simp [*]; done) | (exfalso; simp_all; done)), H', ⟨by have := HJ1.out; have := HK2.out; have := HJ7.out; have := HK4.out; omega⟩, by repeat (first | exact Drawn0.refl _ | apply Drawn0.step)⟩
                          · rw [if_neg c18] at H
                            exact absurd H (by simp)
                        · rw [if_neg c17] at H
                          exact absurd H (by simp)
            · rw [if_neg c7] at H
              have c7b0 : decide (x4_2 < (l0.length : Int)) = false := decide_eq_false c7
              clear c7
              obtain rfl := Option.some.inj H
              go_wp2
              go_ret
              exact ⟨by first | rfl | (simp; done) | (simp [*]; done) | (exfalso; simp_all; done), by repeat (first | exact Drawn0.refl _ | apply Drawn0.step)⟩

end Go.Proofs.Ytmhlellhfepkkaa.PAl
