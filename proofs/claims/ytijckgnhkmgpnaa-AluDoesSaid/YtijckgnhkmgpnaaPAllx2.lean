-- Laid by this seat's own program (wip/tools/pp.sh, a turned copy of the kit's print). Lean checks it.
import Derived.Test.YtijckgnhkmgpnaaPAllx0
import Derived.Test.YtijckgnhkmgpnaaPAllx1
namespace Go.Proofs.Ytijckgnhkmgpnaa.PAll
open Go.RowKit Go.Proofs.YtijckgnhkmgpnaaW.PrintWords Go.Proofs.YtijckgnhkmgpnaaW.PrintLast Go.Proofs.YtijckgnhkmgpnaaW.PrintMore
attribute [local go_sem] max2_int min2_int max_two min_two max_three min_three max_four min_four   -- for this text's walks alone
set_option linter.unusedVariables false
set_option linter.unusedSimpArgs false

/-! ### alu_Do: function 10 -/
mutual
def alu_Do.j0 : Nat → Int → Int → Int → Int → Bool → Option (Int × Bool)
  | 0, _, _, _, _, _ => none
  | k + 1, x0, x1, x2, x8, x9 => if x9 = true then (some (IntKind.u64.wrap (x1 + x2), true)) else (if x8 = 32 then (some (IntKind.u64.wrap (x1 - x2), true)) else (if x8 = 33 then (alu_Do.j1 k x0 x1 x2 x8 (x8 == 33)) else (alu_Do.j1 k x0 x1 x2 x8 (x8 == 28))))
def alu_Do.j1 : Nat → Int → Int → Int → Int → Bool → Option (Int × Bool)
  | 0, _, _, _, _, _ => none
  | k + 1, x0, x1, x2, x8, x20 => if x20 = true then (if 0 ≤ (Go.bits .and .u64 x2 63) then (some (shl .u64 x1 (Go.bits .and .u64 x2 63), true)) else (none)) else (if x8 = 34 then (alu_Do.j2 k x0 x1 x2 x8 (x8 == 34)) else (alu_Do.j2 k x0 x1 x2 x8 (x8 == 23)))
def alu_Do.j2 : Nat → Int → Int → Int → Int → Bool → Option (Int × Bool)
  | 0, _, _, _, _, _ => none
  | k + 1, x0, x1, x2, x8, x27 => if x27 = true then ((alu_less.f x1 x2).bind fun t105 => ((alu_flag.f t105).bind fun t106 => (some (t106, true)))) else (if x8 = 35 then (alu_Do.j3 k x0 x1 x2 x8 (x8 == 35)) else (alu_Do.j3 k x0 x1 x2 x8 (x8 == 24)))
def alu_Do.j3 : Nat → Int → Int → Int → Int → Bool → Option (Int × Bool)
  | 0, _, _, _, _, _ => none
  | k + 1, x0, x1, x2, x8, x34 => if x34 = true then ((alu_flag.f (decide (x1 < x2))).bind fun t107 => (some (t107, true))) else (if x8 = 36 then (alu_Do.j4 k x0 x1 x2 x8 (x8 == 36)) else (alu_Do.j4 k x0 x1 x2 x8 (x8 == 25)))
def alu_Do.j4 : Nat → Int → Int → Int → Int → Bool → Option (Int × Bool)
  | 0, _, _, _, _, _ => none
  | k + 1, x0, x1, x2, x8, x41 => if x41 = true then (some (Go.bits .xor .u64 x1 x2, true)) else (if x8 = 37 then (alu_Do.j5 k x0 x1 x2 x8 (x8 == 37)) else (alu_Do.j5 k x0 x1 x2 x8 (x8 == 29)))
def alu_Do.j5 : Nat → Int → Int → Int → Int → Bool → Option (Int × Bool)
  | 0, _, _, _, _, _ => none
  | k + 1, x0, x1, x2, x8, x47 => if x47 = true then (if 0 ≤ (Go.bits .and .u64 x2 63) then (some (shr .u64 x1 (Go.bits .and .u64 x2 63), true)) else (none)) else (if x8 = 38 then (alu_Do.j6 k x0 x1 x2 x8 (x8 == 38)) else (alu_Do.j6 k x0 x1 x2 x8 (x8 == 30)))
def alu_Do.j6 : Nat → Int → Int → Int → Int → Bool → Option (Int × Bool)
  | 0, _, _, _, _, _ => none
  | k + 1, x0, x1, x2, x8, x54 => if x54 = true then (if 0 ≤ (Go.bits .and .u64 x2 63) then (some (IntKind.u64.wrap (shr .i64 (wrap64 (x1)) (Go.bits .and .u64 x2 63)), true)) else (none)) else (if x8 = 39 then (alu_Do.j7 k x0 x1 x2 x8 (x8 == 39)) else (alu_Do.j7 k x0 x1 x2 x8 (x8 == 26)))
def alu_Do.j7 : Nat → Int → Int → Int → Int → Bool → Option (Int × Bool)
  | 0, _, _, _, _, _ => none
  | k + 1, x0, x1, x2, x8, x63 => if x63 = true then (some (Go.bits .or .u64 x1 x2, true)) else (if x8 = 40 then (some (Go.bits .and .u64 x1 x2, true)) else (if x8 = 27 then (some (Go.bits .and .u64 x1 x2, true)) else ((alu_half.f k x0 x1 x2).bind fun bt108 => (some (bt108.1, bt108.2)))))
end
def alu_Do.f (k : Nat) (a0 : Int) (a1 : Int) (a2 : Int) : Option (Int × Bool) := if a0 = 31 then (alu_Do.j0 k a0 a1 a2 a0 (a0 == 31)) else (alu_Do.j0 k a0 a1 a2 a0 (a0 == 22))
theorem alu_Do.mono_l : ∀ k, (∀ y0 y1 y2 y3 y4, LeO (alu_Do.j0 k y0 y1 y2 y3 y4) (alu_Do.j0 (k + 1) y0 y1 y2 y3 y4)) ∧ (∀ y0 y1 y2 y3 y4, LeO (alu_Do.j1 k y0 y1 y2 y3 y4) (alu_Do.j1 (k + 1) y0 y1 y2 y3 y4)) ∧ (∀ y0 y1 y2 y3 y4, LeO (alu_Do.j2 k y0 y1 y2 y3 y4) (alu_Do.j2 (k + 1) y0 y1 y2 y3 y4)) ∧ (∀ y0 y1 y2 y3 y4, LeO (alu_Do.j3 k y0 y1 y2 y3 y4) (alu_Do.j3 (k + 1) y0 y1 y2 y3 y4)) ∧ (∀ y0 y1 y2 y3 y4, LeO (alu_Do.j4 k y0 y1 y2 y3 y4) (alu_Do.j4 (k + 1) y0 y1 y2 y3 y4)) ∧ (∀ y0 y1 y2 y3 y4, LeO (alu_Do.j5 k y0 y1 y2 y3 y4) (alu_Do.j5 (k + 1) y0 y1 y2 y3 y4)) ∧ (∀ y0 y1 y2 y3 y4, LeO (alu_Do.j6 k y0 y1 y2 y3 y4) (alu_Do.j6 (k + 1) y0 y1 y2 y3 y4)) ∧ (∀ y0 y1 y2 y3 y4, LeO (alu_Do.j7 k y0 y1 y2 y3 y4) (alu_Do.j7 (k + 1) y0 y1 y2 y3 y4))
  | 0 => ⟨fun _ _ _ _ _ r h => by simp [alu_Do.j0] at h, fun _ _ _ _ _ r h => by simp [alu_Do.j1] at h, fun _ _ _ _ _ r h => by simp [alu_Do.j2] at h, fun _ _ _ _ _ r h => by simp [alu_Do.j3] at h, fun _ _ _ _ _ r h => by simp [alu_Do.j4] at h, fun _ _ _ _ _ r h => by simp [alu_Do.j5] at h, fun _ _ _ _ _ r h => by simp [alu_Do.j6] at h, fun _ _ _ _ _ r h => by simp [alu_Do.j7] at h⟩
  | k + 1 => by
    obtain ⟨ih0, ih1, ih2, ih3, ih4, ih5, ih6, ih7⟩ := alu_Do.mono_l k
    refine ⟨?_, ?_, ?_, ?_, ?_, ?_, ?_, ?_⟩
    · intro y0 y1 y2 y3 y4
      unfold alu_Do.j0
      repeat' first
      | (with_reducible exact ih0 _ _ _ _ _)
      | (with_reducible exact ih1 _ _ _ _ _)
      | (with_reducible exact ih2 _ _ _ _ _)
      | (with_reducible exact ih3 _ _ _ _ _)
      | (with_reducible exact ih4 _ _ _ _ _)
      | (with_reducible exact ih5 _ _ _ _ _)
      | (with_reducible exact ih6 _ _ _ _ _)
      | (with_reducible exact ih7 _ _ _ _ _)
      | (with_reducible exact alu_half.mono _ _ _ _)
      | (with_reducible exact LeO.refl _)
      | (with_reducible exact LeO.none _)
      | (with_reducible refine LeO.ite ?_ ?_)
      | (with_reducible refine LeO.bind ?_ (fun _ => ?_))
      | exact ih0 _ _ _ _ _
      | exact ih1 _ _ _ _ _
      | exact ih2 _ _ _ _ _
      | exact ih3 _ _ _ _ _
      | exact ih4 _ _ _ _ _
      | exact ih5 _ _ _ _ _
      | exact ih6 _ _ _ _ _
      | exact ih7 _ _ _ _ _
      | exact alu_half.mono _ _ _ _
      | exact LeO.none _
      | refine LeO.ite ?_ ?_
      | refine LeO.bind ?_ (fun _ => ?_)
    · intro y0 y1 y2 y3 y4
      unfold alu_Do.j1
      repeat' first
      | (with_reducible exact ih0 _ _ _ _ _)
      | (with_reducible exact ih1 _ _ _ _ _)
      | (with_reducible exact ih2 _ _ _ _ _)
      | (with_reducible exact ih3 _ _ _ _ _)
      | (with_reducible exact ih4 _ _ _ _ _)
      | (with_reducible exact ih5 _ _ _ _ _)
      | (with_reducible exact ih6 _ _ _ _ _)
      | (with_reducible exact ih7 _ _ _ _ _)
      | (with_reducible exact alu_half.mono _ _ _ _)
      | (with_reducible exact LeO.refl _)
      | (with_reducible exact LeO.none _)
      | (with_reducible refine LeO.ite ?_ ?_)
      | (with_reducible refine LeO.bind ?_ (fun _ => ?_))
      | exact ih0 _ _ _ _ _
      | exact ih1 _ _ _ _ _
      | exact ih2 _ _ _ _ _
      | exact ih3 _ _ _ _ _
      | exact ih4 _ _ _ _ _
      | exact ih5 _ _ _ _ _
      | exact ih6 _ _ _ _ _
      | exact ih7 _ _ _ _ _
      | exact alu_half.mono _ _ _ _
      | exact LeO.none _
      | refine LeO.ite ?_ ?_
      | refine LeO.bind ?_ (fun _ => ?_)
    · intro y0 y1 y2 y3 y4
      unfold alu_Do.j2
      repeat' first
      | (with_reducible exact ih0 _ _ _ _ _)
      | (with_reducible exact ih1 _ _ _ _ _)
      | (with_reducible exact ih2 _ _ _ _ _)
      | (with_reducible exact ih3 _ _ _ _ _)
      | (with_reducible exact ih4 _ _ _ _ _)
      | (with_reducible exact ih5 _ _ _ _ _)
      | (with_reducible exact ih6 _ _ _ _ _)
      | (with_reducible exact ih7 _ _ _ _ _)
      | (with_reducible exact alu_half.mono _ _ _ _)
      | (with_reducible exact LeO.refl _)
      | (with_reducible exact LeO.none _)
      | (with_reducible refine LeO.ite ?_ ?_)
      | (with_reducible refine LeO.bind ?_ (fun _ => ?_))
      | exact ih0 _ _ _ _ _
      | exact ih1 _ _ _ _ _
      | exact ih2 _ _ _ _ _
      | exact ih3 _ _ _ _ _
      | exact ih4 _ _ _ _ _
      | exact ih5 _ _ _ _ _
      | exact ih6 _ _ _ _ _
      | exact ih7 _ _ _ _ _
      | exact alu_half.mono _ _ _ _
      | exact LeO.none _
      | refine LeO.ite ?_ ?_
      | refine LeO.bind ?_ (fun _ => ?_)
    · intro y0 y1 y2 y3 y4
      unfold alu_Do.j3
      repeat' first
      | (with_reducible exact ih0 _ _ _ _ _)
      | (with_reducible exact ih1 _ _ _ _ _)
      | (with_reducible exact ih2 _ _ _ _ _)
      | (with_reducible exact ih3 _ _ _ _ _)
      | (with_reducible exact ih4 _ _ _ _ _)
      | (with_reducible exact ih5 _ _ _ _ _)
      | (with_reducible exact ih6 _ _ _ _ _)
      | (with_reducible exact ih7 _ _ _ _ _)
      | (with_reducible exact alu_half.mono _ _ _ _)
      | (with_reducible exact LeO.refl _)
      | (with_reducible exact LeO.none _)
      | (with_reducible refine LeO.ite ?_ ?_)
      | (with_reducible refine LeO.bind ?_ (fun _ => ?_))
      | exact ih0 _ _ _ _ _
      | exact ih1 _ _ _ _ _
      | exact ih2 _ _ _ _ _
      | exact ih3 _ _ _ _ _
      | exact ih4 _ _ _ _ _
      | exact ih5 _ _ _ _ _
      | exact ih6 _ _ _ _ _
      | exact ih7 _ _ _ _ _
      | exact alu_half.mono _ _ _ _
      | exact LeO.none _
      | refine LeO.ite ?_ ?_
      | refine LeO.bind ?_ (fun _ => ?_)
    · intro y0 y1 y2 y3 y4
      unfold alu_Do.j4
      repeat' first
      | (with_reducible exact ih0 _ _ _ _ _)
      | (with_reducible exact ih1 _ _ _ _ _)
      | (with_reducible exact ih2 _ _ _ _ _)
      | (with_reducible exact ih3 _ _ _ _ _)
      | (with_reducible exact ih4 _ _ _ _ _)
      | (with_reducible exact ih5 _ _ _ _ _)
      | (with_reducible exact ih6 _ _ _ _ _)
      | (with_reducible exact ih7 _ _ _ _ _)
      | (with_reducible exact alu_half.mono _ _ _ _)
      | (with_reducible exact LeO.refl _)
      | (with_reducible exact LeO.none _)
      | (with_reducible refine LeO.ite ?_ ?_)
      | (with_reducible refine LeO.bind ?_ (fun _ => ?_))
      | exact ih0 _ _ _ _ _
      | exact ih1 _ _ _ _ _
      | exact ih2 _ _ _ _ _
      | exact ih3 _ _ _ _ _
      | exact ih4 _ _ _ _ _
      | exact ih5 _ _ _ _ _
      | exact ih6 _ _ _ _ _
      | exact ih7 _ _ _ _ _
      | exact alu_half.mono _ _ _ _
      | exact LeO.none _
      | refine LeO.ite ?_ ?_
      | refine LeO.bind ?_ (fun _ => ?_)
    · intro y0 y1 y2 y3 y4
      unfold alu_Do.j5
      repeat' first
      | (with_reducible exact ih0 _ _ _ _ _)
      | (with_reducible exact ih1 _ _ _ _ _)
      | (with_reducible exact ih2 _ _ _ _ _)
      | (with_reducible exact ih3 _ _ _ _ _)
      | (with_reducible exact ih4 _ _ _ _ _)
      | (with_reducible exact ih5 _ _ _ _ _)
      | (with_reducible exact ih6 _ _ _ _ _)
      | (with_reducible exact ih7 _ _ _ _ _)
      | (with_reducible exact alu_half.mono _ _ _ _)
      | (with_reducible exact LeO.refl _)
      | (with_reducible exact LeO.none _)
      | (with_reducible refine LeO.ite ?_ ?_)
      | (with_reducible refine LeO.bind ?_ (fun _ => ?_))
      | exact ih0 _ _ _ _ _
      | exact ih1 _ _ _ _ _
      | exact ih2 _ _ _ _ _
      | exact ih3 _ _ _ _ _
      | exact ih4 _ _ _ _ _
      | exact ih5 _ _ _ _ _
      | exact ih6 _ _ _ _ _
      | exact ih7 _ _ _ _ _
      | exact alu_half.mono _ _ _ _
      | exact LeO.none _
      | refine LeO.ite ?_ ?_
      | refine LeO.bind ?_ (fun _ => ?_)
    · intro y0 y1 y2 y3 y4
      unfold alu_Do.j6
      repeat' first
      | (with_reducible exact ih0 _ _ _ _ _)
      | (with_reducible exact ih1 _ _ _ _ _)
      | (with_reducible exact ih2 _ _ _ _ _)
      | (with_reducible exact ih3 _ _ _ _ _)
      | (with_reducible exact ih4 _ _ _ _ _)
      | (with_reducible exact ih5 _ _ _ _ _)
      | (with_reducible exact ih6 _ _ _ _ _)
      | (with_reducible exact ih7 _ _ _ _ _)
      | (with_reducible exact alu_half.mono _ _ _ _)
      | (with_reducible exact LeO.refl _)
      | (with_reducible exact LeO.none _)
      | (with_reducible refine LeO.ite ?_ ?_)
      | (with_reducible refine LeO.bind ?_ (fun _ => ?_))
      | exact ih0 _ _ _ _ _
      | exact ih1 _ _ _ _ _
      | exact ih2 _ _ _ _ _
      | exact ih3 _ _ _ _ _
      | exact ih4 _ _ _ _ _
      | exact ih5 _ _ _ _ _
      | exact ih6 _ _ _ _ _
      | exact ih7 _ _ _ _ _
      | exact alu_half.mono _ _ _ _
      | exact LeO.none _
      | refine LeO.ite ?_ ?_
      | refine LeO.bind ?_ (fun _ => ?_)
    · intro y0 y1 y2 y3 y4
      unfold alu_Do.j7
      repeat' first
      | (with_reducible exact ih0 _ _ _ _ _)
      | (with_reducible exact ih1 _ _ _ _ _)
      | (with_reducible exact ih2 _ _ _ _ _)
      | (with_reducible exact ih3 _ _ _ _ _)
      | (with_reducible exact ih4 _ _ _ _ _)
      | (with_reducible exact ih5 _ _ _ _ _)
      | (with_reducible exact ih6 _ _ _ _ _)
      | (with_reducible exact ih7 _ _ _ _ _)
      | (with_reducible exact alu_half.mono _ _ _ _)
      | (with_reducible exact LeO.refl _)
      | (with_reducible exact LeO.none _)
      | (with_reducible refine LeO.ite ?_ ?_)
      | (with_reducible refine LeO.bind ?_ (fun _ => ?_))
      | exact ih0 _ _ _ _ _
      | exact ih1 _ _ _ _ _
      | exact ih2 _ _ _ _ _
      | exact ih3 _ _ _ _ _
      | exact ih4 _ _ _ _ _
      | exact ih5 _ _ _ _ _
      | exact ih6 _ _ _ _ _
      | exact ih7 _ _ _ _ _
      | exact alu_half.mono _ _ _ _
      | exact LeO.none _
      | refine LeO.ite ?_ ?_
      | refine LeO.bind ?_ (fun _ => ?_)
theorem alu_Do.mono : ∀ a0 a1 a2 k, LeO (alu_Do.f k a0 a1 a2) (alu_Do.f (k + 1) a0 a1 a2) := by
  intro a0 a1 a2 k
  obtain ⟨ih0, ih1, ih2, ih3, ih4, ih5, ih6, ih7⟩ := alu_Do.mono_l k
  unfold alu_Do.f
  repeat' first
      | (with_reducible exact ih0 _ _ _ _ _)
      | (with_reducible exact ih1 _ _ _ _ _)
      | (with_reducible exact ih2 _ _ _ _ _)
      | (with_reducible exact ih3 _ _ _ _ _)
      | (with_reducible exact ih4 _ _ _ _ _)
      | (with_reducible exact ih5 _ _ _ _ _)
      | (with_reducible exact ih6 _ _ _ _ _)
      | (with_reducible exact ih7 _ _ _ _ _)
      | (with_reducible exact alu_half.mono _ _ _ _)
      | (with_reducible exact LeO.refl _)
      | (with_reducible exact LeO.none _)
      | (with_reducible refine LeO.ite ?_ ?_)
      | (with_reducible refine LeO.bind ?_ (fun _ => ?_))
      | exact ih0 _ _ _ _ _
      | exact ih1 _ _ _ _ _
      | exact ih2 _ _ _ _ _
      | exact ih3 _ _ _ _ _
      | exact ih4 _ _ _ _ _
      | exact ih5 _ _ _ _ _
      | exact ih6 _ _ _ _ _
      | exact ih7 _ _ _ _ _
      | exact alu_half.mono _ _ _ _
      | exact LeO.none _
      | refine LeO.ite ?_ ?_
      | refine LeO.bind ?_ (fun _ => ?_)
set_option maxHeartbeats 8000000 in
set_option maxRecDepth 100000 in
theorem alu_Do.calls (k : Nat) (a0 : Int) (a1 : Int) (a2 : Int) (r1 : Int) (r2 : Bool) (w : World) (h : alu_Do.f k a0 a1 a2 = some (r1, r2)) :
    Calls Try.prog 10 #[.int .i64 a0, .int .u64 a1, .int .u64 a2] w fun e w' => e = .returned (.tuple #[.int .u64 r1, .bool r2]) ∧ Drawn0 w w' := by
  have H : (if a0 = 31 then (alu_Do.j0 k a0 a1 a2 a0 (a0 == 31)) else (alu_Do.j0 k a0 a1 a2 a0 (a0 == 22))) = some (r1, r2) := h
  clear h
  have HC4 := Aside0.mk H
  clear H
  go_enter Try.func10, Try.ntmps10
  go_upto_if 9 with (fail)
  go_cut [9] (fun v9 wc => ∃ (kq : Nat) (x9_3 : Bool), v9 = .bool x9_3 ∧ Aside0 (alu_Do.j0 kq a0 a1 a2 a0 x9_3 = some (r1, r2)) ∧ Aside0 (kq ≤ k) ∧ Drawn0 w wc)
  case first =>
    have H := HC4.out
    clear HC4
    by_cases c5 : a0 = 31
    · rw [if_pos c5] at H
      have c5b0 : (a0 == 31) = true := beq_iff_eq.mpr c5
      have c5b1 : (a0 != 31) = false := bne_eq_false_iff_eq.mpr c5
      clear c5
      (first | rw [c5b0] | (simp only [i64_w, i32_w]; rw [c5b0]) | skip)
      have H' := Aside0.mk H
      clear H
      go_wp2
      go_meet
      case rel => exact ⟨_, ((a0 == 31)), (by first | rfl | (simp; done) | (simp [*]; done) | (exfalso; simp_all; done)), H', ⟨by first | omega | exact Nat.le_refl _⟩, by repeat (first | exact Drawn0.refl _ | apply Drawn0.step)⟩
    · rw [if_neg c5] at H
      have c5b0 : (a0 == 31) = false := beq_eq_false_iff_ne.mpr c5
      have c5b1 : (a0 != 31) = true := bne_iff_ne.mpr c5
      (first | rw [c5b0] | (simp only [i64_w, i32_w]; rw [c5b0]) | skip)
      have H' := Aside0.mk H
      clear H
      go_wp2
      go_meet
      case rel => exact ⟨_, ((a0 == 22)), (by first | rfl | (simp; done) | (simp [*]; done) | (exfalso; simp_all; done)), H', ⟨by first | omega | exact Nat.le_refl _⟩, by repeat (first | exact Drawn0.refl _ | apply Drawn0.step)⟩
  case rest =>
    clear HC4
    try clear c1
    try clear p2
    try clear c5
    try clear c5b0
    try clear c5b1
    obtain ⟨kq, x9_3, rfl, HA, HJ3, ⟨mc3, rfl⟩⟩ := hcut
    cases kq with
    | zero => exact absurd HA.out (by simp [alu_Do.j0])
    | succ kj3 =>
      have H := HA.out
      clear HA
      simp only [alu_Do.j0] at H
      by_cases c6 : x9_3 = true
      · subst c6
        have H1 : (some (IntKind.u64.wrap (a1 + a2), true)) = some (r1, r2) := by rw [if_pos rfl] at H; exact H
        clear H
        have H := H1
        clear H1
        simp only [Option.some.injEq, Prod.mk.injEq] at H
        obtain ⟨rfl, rfl⟩ := H
        go_wp2
        go_ret2
        exact ⟨by first | rfl | (simp; done) | (simp [*]; done) | (exfalso; simp_all; done), by repeat (first | exact Drawn0.refl _ | apply Drawn0.step)⟩
      · replace c6 := Bool.eq_false_iff.mpr c6
        subst c6
        have H1 : (if a0 = 32 then (some (IntKind.u64.wrap (a1 - a2), true)) else (if a0 = 33 then (alu_Do.j1 kj3 a0 a1 a2 a0 (a0 == 33)) else (alu_Do.j1 kj3 a0 a1 a2 a0 (a0 == 28)))) = some (r1, r2) := by rw [if_neg (show ¬ (false = true) by decide)] at H; exact H
        clear H
        have H := H1
        clear H1
        by_cases c7 : a0 = 32
        · rw [if_pos c7] at H
          have c7b0 : (a0 == 32) = true := beq_iff_eq.mpr c7
          have c7b1 : (a0 != 32) = false := bne_eq_false_iff_eq.mpr c7
          clear c7
          simp only [Option.some.injEq, Prod.mk.injEq] at H
          obtain ⟨rfl, rfl⟩ := H
          go_wp2
          go_ret2
          exact ⟨by first | rfl | (simp; done) | (simp [*]; done) | (exfalso; simp_all; done), by repeat (first | exact Drawn0.refl _ | apply Drawn0.step)⟩
        · rw [if_neg c7] at H
          have c7b0 : (a0 == 32) = false := beq_eq_false_iff_ne.mpr c7
          have c7b1 : (a0 != 32) = true := bne_iff_ne.mpr c7
          have HC8 := Aside0.mk H
          clear H
          go_upto_if 20 with (fail)
          go_cut [20] (fun v20 wc => ∃ (kq : Nat) (x20_7 : Bool), v20 = .bool x20_7 ∧ Aside0 (alu_Do.j1 kq a0 a1 a2 a0 x20_7 = some (r1, r2)) ∧ Aside0 (kq ≤ kj3) ∧ Drawn0 w wc)
          case first =>
            have H := HC8.out
            clear HC8
            by_cases c9 : a0 = 33
            · rw [if_pos c9] at H
              have c9b0 : (a0 == 33) = true := beq_iff_eq.mpr c9
              have c9b1 : (a0 != 33) = false := bne_eq_false_iff_eq.mpr c9
              clear c9
              (first | rw [c9b0] | (simp only [i64_w, i32_w]; rw [c9b0]) | skip)
              have H' := Aside0.mk H
              clear H
              go_wp2
              go_meet
              case rel => exact ⟨_, ((a0 == 33)), (by first | rfl | (simp; done) | (simp [*]; done) | (exfalso; simp_all; done)), H', ⟨by have := HJ3.out; first | omega | exact Nat.le_refl _⟩, by repeat (first | exact Drawn0.refl _ | apply Drawn0.step)⟩
            · rw [if_neg c9] at H
              have c9b0 : (a0 == 33) = false := beq_eq_false_iff_ne.mpr c9
              have c9b1 : (a0 != 33) = true := bne_iff_ne.mpr c9
              (first | rw [c9b0] | (simp only [i64_w, i32_w]; rw [c9b0]) | skip)
              have H' := Aside0.mk H
              clear H
              go_wp2
              go_meet
              case rel => exact ⟨_, ((a0 == 28)), (by first | rfl | (simp; done) | (simp [*]; done) | (exfalso; simp_all; done)), H', ⟨by have := HJ3.out; first | omega | exact Nat.le_refl _⟩, by repeat (first | exact Drawn0.refl _ | apply Drawn0.step)⟩
          case rest =>
            clear HC8
            try clear c1
            try clear p2
            try clear c3
            try clear c5
            try clear c5b0
            try clear c5b1
            try clear c6
            try clear c7
            try clear c7b0
            try clear c7b1
            try clear c9
            try clear c9b0
            try clear c9b1
            try clear p2
            obtain ⟨kq, x20_7, rfl, HA, HJ7, ⟨mc7, rfl⟩⟩ := hcut
            cases kq with
            | zero => exact absurd HA.out (by simp [alu_Do.j1])
            | succ kj7 =>
              have H := HA.out
              clear HA
              simp only [alu_Do.j1] at H
              by_cases c10 : x20_7 = true
              · subst c10
                have H1 : (if 0 ≤ (Go.bits .and .u64 a2 63) then (some (shl .u64 a1 (Go.bits .and .u64 a2 63), true)) else (none)) = some (r1, r2) := by rw [if_pos rfl] at H; exact H
                clear H
                have H := H1
                clear H1
                by_cases c11 : 0 ≤ (Go.bits .and .u64 a2 63)
                · rw [if_pos c11] at H
                  have c11b0 := eq_true c11
                  have c11b1 : decide (0 ≤ (Go.bits .and .u64 a2 63)) = true := decide_eq_true c11
                  clear c11
                  obtain ⟨ji12, hji12⟩ : ∃ j_ : Int, (shl .u64 a1 (Go.bits .and .u64 a2 63)) = j_ := ⟨_, rfl⟩
                  replace H : (some (ji12, true)) = some (r1, r2) := by first | (rw [hji12] at H; exact H) | (simp only [hji12] at H ⊢; exact H)
                  have hji12_ : (IntKind.u64.wrap (a1 * 2 ^ min (Go.bits .and .u64 a2 63).toNat 64)) = ji12 := hji12
                  have hji12z : (Go.bits .and .u64 a2 63) ≤ 64 → (IntKind.u64.wrap (a1 * 2 ^ (Go.bits .and .u64 a2 63).toNat)) = ji12 := shl_small hji12
                  simp only [Option.some.injEq, Prod.mk.injEq] at H
                  obtain ⟨rfl, rfl⟩ := H
                  go_wp2
                  go_ret2
                  exact ⟨by first | rfl | (simp; done) | (simp only [← hji12] <;> (first | rfl | simp)) | (simp [*]; done) | (exfalso; simp_all; done), by repeat (first | exact Drawn0.refl _ | apply Drawn0.step)⟩
                · rw [if_neg c11] at H
                  exact absurd H (by simp)
              · replace c10 := Bool.eq_false_iff.mpr c10
                subst c10
                have H1 : (if a0 = 34 then (alu_Do.j2 kj7 a0 a1 a2 a0 (a0 == 34)) else (alu_Do.j2 kj7 a0 a1 a2 a0 (a0 == 23))) = some (r1, r2) := by rw [if_neg (show ¬ (false = true) by decide)] at H; exact H
                clear H
                have H := H1
                clear H1
                have HC13 := Aside0.mk H
                clear H
                go_upto_if 27 with (fail)
                go_cut [27] (fun v27 wc => ∃ (kq : Nat) (x27_12 : Bool), v27 = .bool x27_12 ∧ Aside0 (alu_Do.j2 kq a0 a1 a2 a0 x27_12 = some (r1, r2)) ∧ Aside0 (kq ≤ kj7) ∧ Drawn0 w wc)
                case first =>
                  have H := HC13.out
                  clear HC13
                  by_cases c14 : a0 = 34
                  · rw [if_pos c14] at H
                    have c14b0 : (a0 == 34) = true := beq_iff_eq.mpr c14
                    have c14b1 : (a0 != 34) = false := bne_eq_false_iff_eq.mpr c14
                    clear c14
                    (first | rw [c14b0] | (simp only [i64_w, i32_w]; rw [c14b0]) | skip)
                    have H' := Aside0.mk H
                    clear H
                    go_wp2
                    go_meet
                    case rel => exact ⟨_, ((a0 == 34)), (by first | rfl | (simp; done) | (simp [*]; done) | (exfalso; simp_all; done)), H', ⟨by have := HJ3.out; have := HJ7.out; first | omega | exact Nat.le_refl _⟩, by repeat (first | exact Drawn0.refl _ | apply Drawn0.step)⟩
                  · rw [if_neg c14] at H
                    have c14b0 : (a0 == 34) = false := beq_eq_false_iff_ne.mpr c14
                    have c14b1 : (a0 != 34) = true := bne_iff_ne.mpr c14
                    (first | rw [c14b0] | (simp only [i64_w, i32_w]; rw [c14b0]) | skip)
                    have H' := Aside0.mk H
                    clear H
                    go_wp2
                    go_meet
                    case rel => exact ⟨_, ((a0 == 23)), (by first | rfl | (simp; done) | (simp [*]; done) | (exfalso; simp_all; done)), H', ⟨by have := HJ3.out; have := HJ7.out; first | omega | exact Nat.le_refl _⟩, by repeat (first | exact Drawn0.refl _ | apply Drawn0.step)⟩
                case rest =>
                  clear HC13
                  try clear c1
                  try clear p2
                  try clear c3
                  try clear c5
                  try clear c5b0
                  try clear c5b1
                  try clear c6
                  try clear c7
                  try clear c7b0
                  try clear c7b1
                  try clear c9
                  try clear c9b0
                  try clear c9b1
                  try clear c10
                  try clear c11
                  try clear c11b0
                  try clear c11b1
                  try clear c14
                  try clear c14b0
                  try clear c14b1
                  try clear p2
                  obtain ⟨kq, x27_12, rfl, HA, HJ12, ⟨mc12, rfl⟩⟩ := hcut
                  cases kq with
                  | zero => exact absurd HA.out (by simp [alu_Do.j2])
                  | succ kj12 =>
                    have H := HA.out
                    clear HA
                    simp only [alu_Do.j2] at H
                    by_cases c15 : x27_12 = true
                    · subst c15
                      have H1 : ((alu_less.f a1 a2).bind fun t105 => ((alu_flag.f t105).bind fun t106 => (some (t106, true)))) = some (r1, r2) := by rw [if_pos rfl] at H; exact H
                      clear H
                      have H := H1
                      clear H1
                      replace H := Option.bind_eq_some_iff.mp H
                      obtain ⟨t105, A160, H⟩ := H
                      replace H : ((alu_flag.f t105).bind fun t106 => (some (t106, true))) = some (r1, r2) := H
                      have A16 := Aside0.mk A160
                      clear A160
                      replace H := Option.bind_eq_some_iff.mp H
                      obtain ⟨t106, A170, H⟩ := H
                      replace H : (some (t106, true)) = some (r1, r2) := H
                      have A17 := Aside0.mk A170
                      clear A170
                      simp only [Option.some.injEq, Prod.mk.injEq] at H
                      obtain ⟨rfl, rfl⟩ := H
                      go_wp2_with (first | ((with_reducible refine gate_callee (f := 17) rfl ?_); refine goesL_ (some 32) rfl rfl Try.func17 (by kernel_rfl) rfl #[.int .u64 a1, .int .u64 a2] rfl (by (try simp only [List.map_toArray, List.map_cons, List.map_nil]); first | done | rfl | (simp only [List.length_drop, List.length_take]; rfl)) ?_; (with_reducible refine (alu_less.calls a1 a2 t105 _ A16.out).mono ?_); rintro e w' ⟨rfl, ⟨nd, rfl⟩⟩; refine ⟨_, rfl, ?_⟩) | ((with_reducible refine gate_callee (f := 16) rfl ?_); refine goesL_ (some 33) rfl rfl Try.func16 (by kernel_rfl) rfl #[.bool t105] rfl (by (try simp only [List.map_toArray, List.map_cons, List.map_nil]); first | done | rfl | (simp only [List.length_drop, List.length_take]; rfl)) ?_; (with_reducible refine (alu_flag.calls t105 t106 _ A17.out).mono ?_); rintro e w' ⟨rfl, ⟨nd, rfl⟩⟩; refine ⟨_, rfl, ?_⟩))
                      go_ret2
                      exact ⟨by first | rfl | (simp; done) | (simp [*]; done) | (exfalso; simp_all; done), by repeat (first | exact Drawn0.refl _ | apply Drawn0.step)⟩
                    · replace c15 := Bool.eq_false_iff.mpr c15
                      subst c15
                      have H1 : (if a0 = 35 then (alu_Do.j3 kj12 a0 a1 a2 a0 (a0 == 35)) else (alu_Do.j3 kj12 a0 a1 a2 a0 (a0 == 24))) = some (r1, r2) := by rw [if_neg (show ¬ (false = true) by decide)] at H; exact H
                      clear H
                      have H := H1
                      clear H1
                      have HC18 := Aside0.mk H
                      clear H
                      go_upto_if 34 with (fail)
                      go_cut [34] (fun v34 wc => ∃ (kq : Nat) (x34_17 : Bool), v34 = .bool x34_17 ∧ Aside0 (alu_Do.j3 kq a0 a1 a2 a0 x34_17 = some (r1, r2)) ∧ Aside0 (kq ≤ kj12) ∧ Drawn0 w wc)
                      case first =>
                        have H := HC18.out
                        clear HC18
                        by_cases c19 : a0 = 35
                        · rw [if_pos c19] at H
                          have c19b0 : (a0 == 35) = true := beq_iff_eq.mpr c19
                          have c19b1 : (a0 != 35) = false := bne_eq_false_iff_eq.mpr c19
                          clear c19
                          (first | rw [c19b0] | (simp only [i64_w, i32_w]; rw [c19b0]) | skip)
                          have H' := Aside0.mk H
                          clear H
                          go_wp2
                          go_meet
                          case rel => exact ⟨_, ((a0 == 35)), (by first | rfl | (simp; done) | (simp [*]; done) | (exfalso; simp_all; done)), H', ⟨by have := HJ3.out; have := HJ7.out; have := HJ12.out; first | omega | exact Nat.le_refl _⟩, by repeat (first | exact Drawn0.refl _ | apply Drawn0.step)⟩
                        · rw [if_neg c19] at H
                          have c19b0 : (a0 == 35) = false := beq_eq_false_iff_ne.mpr c19
                          have c19b1 : (a0 != 35) = true := bne_iff_ne.mpr c19
                          (first | rw [c19b0] | (simp only [i64_w, i32_w]; rw [c19b0]) | skip)
                          have H' := Aside0.mk H
                          clear H
                          go_wp2
                          go_meet
                          case rel => exact ⟨_, ((a0 == 24)), (by first | rfl | (simp; done) | (simp [*]; done) | (exfalso; simp_all; done)), H', ⟨by have := HJ3.out; have := HJ7.out; have := HJ12.out; first | omega | exact Nat.le_refl _⟩, by repeat (first | exact Drawn0.refl _ | apply Drawn0.step)⟩
                      case rest =>
                        clear HC18
                        try clear c1
                        try clear p2
                        try clear c3
                        try clear c5
                        try clear c5b0
                        try clear c5b1
                        try clear c6
                        try clear c7
                        try clear c7b0
                        try clear c7b1
                        try clear c9
                        try clear c9b0
                        try clear c9b1
                        try clear c10
                        try clear c11
                        try clear c11b0
                        try clear c11b1
                        try clear c12
                        try clear c14
                        try clear c14b0
                        try clear c14b1
                        try clear c15
                        try clear c16
                        try clear c17
                        try clear c19
                        try clear c19b0
                        try clear c19b1
                        try clear p2
                        obtain ⟨kq, x34_17, rfl, HA, HJ17, ⟨mc17, rfl⟩⟩ := hcut
                        cases kq with
                        | zero => exact absurd HA.out (by simp [alu_Do.j3])
                        | succ kj17 =>
                          have H := HA.out
                          clear HA
                          simp only [alu_Do.j3] at H
                          by_cases c20 : x34_17 = true
                          · subst c20
                            have H1 : ((alu_flag.f (decide (a1 < a2))).bind fun t107 => (some (t107, true))) = some (r1, r2) := by rw [if_pos rfl] at H; exact H
                            clear H
                            have H := H1
                            clear H1
                            replace H := Option.bind_eq_some_iff.mp H
                            obtain ⟨t107, A210, H⟩ := H
                            replace H : (some (t107, true)) = some (r1, r2) := H
                            have A21 := Aside0.mk A210
                            clear A210
                            simp only [Option.some.injEq, Prod.mk.injEq] at H
                            obtain ⟨rfl, rfl⟩ := H
                            go_wp2_with (first | ((with_reducible refine gate_callee (f := 16) rfl ?_); refine goesL_ (some 40) rfl rfl Try.func16 (by kernel_rfl) rfl #[.bool (decide (a1 < a2))] rfl (by (try simp only [List.map_toArray, List.map_cons, List.map_nil]); first | done | rfl | (simp only [List.length_drop, List.length_take]; rfl)) ?_; (with_reducible refine (alu_flag.calls (decide (a1 < a2)) t107 _ A21.out).mono ?_); rintro e w' ⟨rfl, ⟨nd, rfl⟩⟩; refine ⟨_, rfl, ?_⟩))
                            go_ret2
                            exact ⟨by first | rfl | (simp; done) | (simp [*]; done) | (exfalso; simp_all; done), by repeat (first | exact Drawn0.refl _ | apply Drawn0.step)⟩
                          · replace c20 := Bool.eq_false_iff.mpr c20
                            subst c20
                            have H1 : (if a0 = 36 then (alu_Do.j4 kj17 a0 a1 a2 a0 (a0 == 36)) else (alu_Do.j4 kj17 a0 a1 a2 a0 (a0 == 25))) = some (r1, r2) := by rw [if_neg (show ¬ (false = true) by decide)] at H; exact H
                            clear H
                            have H := H1
                            clear H1
                            have HC22 := Aside0.mk H
                            clear H
                            go_upto_if 41 with (fail)
                            go_cut [41] (fun v41 wc => ∃ (kq : Nat) (x41_21 : Bool), v41 = .bool x41_21 ∧ Aside0 (alu_Do.j4 kq a0 a1 a2 a0 x41_21 = some (r1, r2)) ∧ Aside0 (kq ≤ kj17) ∧ Drawn0 w wc)
                            case first =>
                              have H := HC22.out
                              clear HC22
                              by_cases c23 : a0 = 36
                              · rw [if_pos c23] at H
                                have c23b0 : (a0 == 36) = true := beq_iff_eq.mpr c23
                                have c23b1 : (a0 != 36) = false := bne_eq_false_iff_eq.mpr c23
                                clear c23
                                (first | rw [c23b0] | (simp only [i64_w, i32_w]; rw [c23b0]) | skip)
                                have H' := Aside0.mk H
                                clear H
                                go_wp2
                                go_meet
                                case rel => exact ⟨_, ((a0 == 36)), (by first | rfl | (simp; done) | (simp [*]; done) | (exfalso; simp_all; done)), H', ⟨by have := HJ3.out; have := HJ7.out; have := HJ12.out; have := HJ17.out; first | omega | exact Nat.le_refl _⟩, by repeat (first | exact Drawn0.refl _ | apply Drawn0.step)⟩
                              · rw [if_neg c23] at H
                                have c23b0 : (a0 == 36) = false := beq_eq_false_iff_ne.mpr c23
                                have c23b1 : (a0 != 36) = true := bne_iff_ne.mpr c23
                                (first | rw [c23b0] | (simp only [i64_w, i32_w]; rw [c23b0]) | skip)
                                have H' := Aside0.mk H
                                clear H
                                go_wp2
                                go_meet
                                case rel => exact ⟨_, ((a0 == 25)), (by first | rfl | (simp; done) | (simp [*]; done) | (exfalso; simp_all; done)), H', ⟨by have := HJ3.out; have := HJ7.out; have := HJ12.out; have := HJ17.out; first | omega | exact Nat.le_refl _⟩, by repeat (first | exact Drawn0.refl _ | apply Drawn0.step)⟩
                            case rest =>
                              clear HC22
                              try clear c1
                              try clear c2
                              try clear p2
                              try clear c3
                              try clear c5
                              try clear c5b0
                              try clear c5b1
                              try clear c6
                              try clear c7
                              try clear c7b0
                              try clear c7b1
                              try clear c9
                              try clear c9b0
                              try clear c9b1
                              try clear c10
                              try clear c11
                              try clear c11b0
                              try clear c11b1
                              try clear c12
                              try clear c14
                              try clear c14b0
                              try clear c14b1
                              try clear c15
                              try clear c16
                              try clear c17
                              try clear c19
                              try clear c19b0
                              try clear c19b1
                              try clear c20
                              try clear c23
                              try clear c23b0
                              try clear c23b1
                              try clear p2
                              obtain ⟨kq, x41_21, rfl, HA, HJ21, ⟨mc21, rfl⟩⟩ := hcut
                              cases kq with
                              | zero => exact absurd HA.out (by simp [alu_Do.j4])
                              | succ kj21 =>
                                have H := HA.out
                                clear HA
                                simp only [alu_Do.j4] at H
                                by_cases c24 : x41_21 = true
                                · subst c24
                                  have H1 : (some (Go.bits .xor .u64 a1 a2, true)) = some (r1, r2) := by rw [if_pos rfl] at H; exact H
                                  clear H
                                  have H := H1
                                  clear H1
                                  simp only [Option.some.injEq, Prod.mk.injEq] at H
                                  obtain ⟨rfl, rfl⟩ := H
                                  go_wp2
                                  go_ret2
                                  exact ⟨by first | rfl | (simp; done) | (simp [*]; done) | (exfalso; simp_all; done), by repeat (first | exact Drawn0.refl _ | apply Drawn0.step)⟩
                                · replace c24 := Bool.eq_false_iff.mpr c24
                                  subst c24
                                  have H1 : (if a0 = 37 then (alu_Do.j5 kj21 a0 a1 a2 a0 (a0 == 37)) else (alu_Do.j5 kj21 a0 a1 a2 a0 (a0 == 29))) = some (r1, r2) := by rw [if_neg (show ¬ (false = true) by decide)] at H; exact H
                                  clear H
                                  have H := H1
                                  clear H1
                                  have HC25 := Aside0.mk H
                                  clear H
                                  go_upto_if 47 with (fail)
                                  go_cut [47] (fun v47 wc => ∃ (kq : Nat) (x47_24 : Bool), v47 = .bool x47_24 ∧ Aside0 (alu_Do.j5 kq a0 a1 a2 a0 x47_24 = some (r1, r2)) ∧ Aside0 (kq ≤ kj21) ∧ Drawn0 w wc)
                                  case first =>
                                    have H := HC25.out
                                    clear HC25
                                    by_cases c26 : a0 = 37
                                    · rw [if_pos c26] at H
                                      have c26b0 : (a0 == 37) = true := beq_iff_eq.mpr c26
                                      have c26b1 : (a0 != 37) = false := bne_eq_false_iff_eq.mpr c26
                                      clear c26
                                      (first | rw [c26b0] | (simp only [i64_w, i32_w]; rw [c26b0]) | skip)
                                      have H' := Aside0.mk H
                                      clear H
                                      go_wp2
                                      go_meet
                                      case rel => exact ⟨_, ((a0 == 37)), (by first | rfl | (simp; done) | (simp [*]; done) | (exfalso; simp_all; done)), H', ⟨by have := HJ3.out; have := HJ7.out; have := HJ12.out; have := HJ17.out; have := HJ21.out; first | omega | exact Nat.le_refl _⟩, by repeat (first | exact Drawn0.refl _ | apply Drawn0.step)⟩
                                    · rw [if_neg c26] at H
                                      have c26b0 : (a0 == 37) = false := beq_eq_false_iff_ne.mpr c26
                                      have c26b1 : (a0 != 37) = true := bne_iff_ne.mpr c26
                                      (first | rw [c26b0] | (simp only [i64_w, i32_w]; rw [c26b0]) | skip)
                                      have H' := Aside0.mk H
                                      clear H
                                      go_wp2
                                      go_meet
                                      case rel => exact ⟨_, ((a0 == 29)), (by first | rfl | (simp; done) | (simp [*]; done) | (exfalso; simp_all; done)), H', ⟨by have := HJ3.out; have := HJ7.out; have := HJ12.out; have := HJ17.out; have := HJ21.out; first | omega | exact Nat.le_refl _⟩, by repeat (first | exact Drawn0.refl _ | apply Drawn0.step)⟩
                                  case rest =>
                                    clear HC25
                                    try clear c1
                                    try clear c2
                                    try clear p2
                                    try clear c3
                                    try clear c5
                                    try clear c5b0
                                    try clear c5b1
                                    try clear c6
                                    try clear c7
                                    try clear c7b0
                                    try clear c7b1
                                    try clear c9
                                    try clear c9b0
                                    try clear c9b1
                                    try clear c10
                                    try clear c11
                                    try clear c11b0
                                    try clear c11b1
                                    try clear c12
                                    try clear c14
                                    try clear c14b0
                                    try clear c14b1
                                    try clear c15
                                    try clear c16
                                    try clear c17
                                    try clear c19
                                    try clear c19b0
                                    try clear c19b1
                                    try clear c20
                                    try clear c21
                                    try clear c23
                                    try clear c23b0
                                    try clear c23b1
                                    try clear c24
                                    try clear c26
                                    try clear c26b0
                                    try clear c26b1
                                    try clear p2
                                    obtain ⟨kq, x47_24, rfl, HA, HJ24, ⟨mc24, rfl⟩⟩ := hcut
                                    cases kq with
                                    | zero => exact absurd HA.out (by simp [alu_Do.j5])
                                    | succ kj24 =>
                                      have H := HA.out
                                      clear HA
                                      simp only [alu_Do.j5] at H
                                      by_cases c27 : x47_24 = true
                                      · subst c27
                                        have H1 : (if 0 ≤ (Go.bits .and .u64 a2 63) then (some (shr .u64 a1 (Go.bits .and .u64 a2 63), true)) else (none)) = some (r1, r2) := by rw [if_pos rfl] at H; exact H
                                        clear H
                                        have H := H1
                                        clear H1
                                        by_cases c28 : 0 ≤ (Go.bits .and .u64 a2 63)
                                        · rw [if_pos c28] at H
                                          have c28b0 := eq_true c28
                                          have c28b1 : decide (0 ≤ (Go.bits .and .u64 a2 63)) = true := decide_eq_true c28
                                          clear c28
                                          obtain ⟨ji29, hji29⟩ : ∃ j_ : Int, (shr .u64 a1 (Go.bits .and .u64 a2 63)) = j_ := ⟨_, rfl⟩
                                          replace H : (some (ji29, true)) = some (r1, r2) := by first | (rw [hji29] at H; exact H) | (simp only [hji29] at H ⊢; exact H)
                                          have hji29_ : (a1 / 2 ^ min (Go.bits .and .u64 a2 63).toNat 64) = ji29 := hji29
                                          have hji29z : (Go.bits .and .u64 a2 63) ≤ 64 → (a1 / 2 ^ (Go.bits .and .u64 a2 63).toNat) = ji29 := shr_small hji29
                                          simp only [Option.some.injEq, Prod.mk.injEq] at H
                                          obtain ⟨rfl, rfl⟩ := H
                                          go_wp2
                                          go_ret2
                                          exact ⟨by first | rfl | (simp; done) | (simp only [← hji29] <;> (first | rfl | simp)) | (simp [*]; done) | (exfalso; simp_all; done), by repeat (first | exact Drawn0.refl _ | apply Drawn0.step)⟩
                                        · rw [if_neg c28] at H
                                          exact absurd H (by simp)
                                      · replace c27 := Bool.eq_false_iff.mpr c27
                                        subst c27
                                        have H1 : (if a0 = 38 then (alu_Do.j6 kj24 a0 a1 a2 a0 (a0 == 38)) else (alu_Do.j6 kj24 a0 a1 a2 a0 (a0 == 30))) = some (r1, r2) := by rw [if_neg (show ¬ (false = true) by decide)] at H; exact H
                                        clear H
                                        have H := H1
                                        clear H1
                                        have HC30 := Aside0.mk H
                                        clear H
                                        go_upto_if 54 with (fail)
                                        go_cut [54] (fun v54 wc => ∃ (kq : Nat) (x54_29 : Bool), v54 = .bool x54_29 ∧ Aside0 (alu_Do.j6 kq a0 a1 a2 a0 x54_29 = some (r1, r2)) ∧ Aside0 (kq ≤ kj24) ∧ Drawn0 w wc)
                                        case first =>
                                          have H := HC30.out
                                          clear HC30
                                          by_cases c31 : a0 = 38
                                          · rw [if_pos c31] at H
                                            have c31b0 : (a0 == 38) = true := beq_iff_eq.mpr c31
                                            have c31b1 : (a0 != 38) = false := bne_eq_false_iff_eq.mpr c31
                                            clear c31
                                            (first | rw [c31b0] | (simp only [i64_w, i32_w]; rw [c31b0]) | skip)
                                            have H' := Aside0.mk H
                                            clear H
                                            go_wp2
                                            go_meet
                                            case rel => exact ⟨_, ((a0 == 38)), (by first | rfl | (simp; done) | (simp [*]; done) | (exfalso; simp_all; done)), H', ⟨by have := HJ3.out; have := HJ7.out; have := HJ12.out; have := HJ17.out; have := HJ21.out; have := HJ24.out; first | omega | exact Nat.le_refl _⟩, by repeat (first | exact Drawn0.refl _ | apply Drawn0.step)⟩
                                          · rw [if_neg c31] at H
                                            have c31b0 : (a0 == 38) = false := beq_eq_false_iff_ne.mpr c31
                                            have c31b1 : (a0 != 38) = true := bne_iff_ne.mpr c31
                                            (first | rw [c31b0] | (simp only [i64_w, i32_w]; rw [c31b0]) | skip)
                                            have H' := Aside0.mk H
                                            clear H
                                            go_wp2
                                            go_meet
                                            case rel => exact ⟨_, ((a0 == 30)), (by first | rfl | (simp; done) | (simp [*]; done) | (exfalso; simp_all; done)), H', ⟨by have := HJ3.out; have := HJ7.out; have := HJ12.out; have := HJ17.out; have := HJ21.out; have := HJ24.out; first | omega | exact Nat.le_refl _⟩, by repeat (first | exact Drawn0.refl _ | apply Drawn0.step)⟩
                                        case rest =>
                                          clear HC30
                                          try clear c1
                                          try clear c2
                                          try clear p2
                                          try clear c3
                                          try clear c5
                                          try clear c5b0
                                          try clear c5b1
                                          try clear c6
                                          try clear c7
                                          try clear c7b0
                                          try clear c7b1
                                          try clear c9
                                          try clear c9b0
                                          try clear c9b1
                                          try clear c10
                                          try clear c11
                                          try clear c11b0
                                          try clear c11b1
                                          try clear c12
                                          try clear c14
                                          try clear c14b0
                                          try clear c14b1
                                          try clear c15
                                          try clear c16
                                          try clear c17
                                          try clear c19
                                          try clear c19b0
                                          try clear c19b1
                                          try clear c20
                                          try clear c21
                                          try clear c23
                                          try clear c23b0
                                          try clear c23b1
                                          try clear c24
                                          try clear c26
                                          try clear c26b0
                                          try clear c26b1
                                          try clear c27
                                          try clear c28
                                          try clear c28b0
                                          try clear c28b1
                                          try clear c31
                                          try clear c31b0
                                          try clear c31b1
                                          try clear p2
                                          obtain ⟨kq, x54_29, rfl, HA, HJ29, ⟨mc29, rfl⟩⟩ := hcut
                                          cases kq with
                                          | zero => exact absurd HA.out (by simp [alu_Do.j6])
                                          | succ kj29 =>
                                            have H := HA.out
                                            clear HA
                                            simp only [alu_Do.j6] at H
                                            by_cases c32 : x54_29 = true
                                            · subst c32
                                              have H1 : (if 0 ≤ (Go.bits .and .u64 a2 63) then (some (IntKind.u64.wrap (shr .i64 (wrap64 (a1)) (Go.bits .and .u64 a2 63)), true)) else (none)) = some (r1, r2) := by rw [if_pos rfl] at H; exact H
                                              clear H
                                              have H := H1
                                              clear H1
                                              by_cases c33 : 0 ≤ (Go.bits .and .u64 a2 63)
                                              · rw [if_pos c33] at H
                                                have c33b0 := eq_true c33
                                                have c33b1 : decide (0 ≤ (Go.bits .and .u64 a2 63)) = true := decide_eq_true c33
                                                clear c33
                                                obtain ⟨ji34, hji34⟩ : ∃ j_ : Int, (shr .i64 (wrap64 (a1)) (Go.bits .and .u64 a2 63)) = j_ := ⟨_, rfl⟩
                                                replace H : (some (IntKind.u64.wrap (ji34), true)) = some (r1, r2) := by first | (rw [hji34] at H; exact H) | (simp only [hji34] at H ⊢; exact H)
                                                have hji34_ : ((wrap64 (a1)) / 2 ^ min (Go.bits .and .u64 a2 63).toNat 64) = ji34 := hji34
                                                have hji34z : (Go.bits .and .u64 a2 63) ≤ 64 → ((wrap64 (a1)) / 2 ^ (Go.bits .and .u64 a2 63).toNat) = ji34 := shr_small hji34
                                                simp only [Option.some.injEq, Prod.mk.injEq] at H
                                                obtain ⟨rfl, rfl⟩ := H
                                                go_wp2
                                                go_ret2
                                                exact ⟨by first | rfl | (simp; done) | (simp only [← hji34] <;> (first | rfl | simp)) | (simp [*]; done) | (exfalso; simp_all; done), by repeat (first | exact Drawn0.refl _ | apply Drawn0.step)⟩
                                              · rw [if_neg c33] at H
                                                exact absurd H (by simp)
                                            · replace c32 := Bool.eq_false_iff.mpr c32
                                              subst c32
                                              have H1 : (if a0 = 39 then (alu_Do.j7 kj29 a0 a1 a2 a0 (a0 == 39)) else (alu_Do.j7 kj29 a0 a1 a2 a0 (a0 == 26))) = some (r1, r2) := by rw [if_neg (show ¬ (false = true) by decide)] at H; exact H
                                              clear H
                                              have H := H1
                                              clear H1
                                              have HC35 := Aside0.mk H
                                              clear H
                                              go_upto_if 63 with (fail)
                                              go_cut [63] (fun v63 wc => ∃ (kq : Nat) (x63_34 : Bool), v63 = .bool x63_34 ∧ Aside0 (alu_Do.j7 kq a0 a1 a2 a0 x63_34 = some (r1, r2)) ∧ Aside0 (kq ≤ kj29) ∧ Drawn0 w wc)
                                              case first =>
                                                have H := HC35.out
                                                clear HC35
                                                by_cases c36 : a0 = 39
                                                · rw [if_pos c36] at H
                                                  have c36b0 : (a0 == 39) = true := beq_iff_eq.mpr c36
                                                  have c36b1 : (a0 != 39) = false := bne_eq_false_iff_eq.mpr c36
                                                  clear c36
                                                  (first | rw [c36b0] | (simp only [i64_w, i32_w]; rw [c36b0]) | skip)
                                                  have H' := Aside0.mk H
                                                  clear H
                                                  go_wp2
                                                  go_meet
                                                  case rel => exact ⟨_, ((a0 == 39)), (by first | rfl | (simp; done) | (simp [*]; done) | (exfalso; simp_all; done)), H', ⟨by have := HJ3.out; have := HJ7.out; have := HJ12.out; have := HJ17.out; have := HJ21.out; have := HJ24.out; have := HJ29.out; first | omega | exact Nat.le_refl _⟩, by repeat (first | exact Drawn0.refl _ | apply Drawn0.step)⟩
                                                · rw [if_neg c36] at H
                                                  have c36b0 : (a0 == 39) = false := beq_eq_false_iff_ne.mpr c36
                                                  have c36b1 : (a0 != 39) = true := bne_iff_ne.mpr c36
                                                  (first | rw [c36b0] | (simp only [i64_w, i32_w]; rw [c36b0]) | skip)
                                                  have H' := Aside0.mk H
                                                  clear H
                                                  go_wp2
                                                  go_meet
                                                  case rel => exact ⟨_, ((a0 == 26)), (by first | rfl | (simp; done) | (simp [*]; done) | (exfalso; simp_all; done)), H', ⟨by have := HJ3.out; have := HJ7.out; have := HJ12.out; have := HJ17.out; have := HJ21.out; have := HJ24.out; have := HJ29.out; first | omega | exact Nat.le_refl _⟩, by repeat (first | exact Drawn0.refl _ | apply Drawn0.step)⟩
                                              case rest =>
                                                clear HC35
                                                try clear c1
                                                try clear c2
                                                try clear p2
                                                try clear c3
                                                try clear c5
                                                try clear c5b0
                                                try clear c5b1
                                                try clear c6
                                                try clear p6
                                                try clear c7
                                                try clear c7b0
                                                try clear c7b1
                                                try clear c9
                                                try clear c9b0
                                                try clear c9b1
                                                try clear c10
                                                try clear c11
                                                try clear c11b0
                                                try clear c11b1
                                                try clear c12
                                                try clear c14
                                                try clear c14b0
                                                try clear c14b1
                                                try clear c15
                                                try clear c16
                                                try clear c17
                                                try clear c19
                                                try clear c19b0
                                                try clear c19b1
                                                try clear c20
                                                try clear c21
                                                try clear c23
                                                try clear c23b0
                                                try clear c23b1
                                                try clear c24
                                                try clear c26
                                                try clear c26b0
                                                try clear c26b1
                                                try clear c27
                                                try clear c28
                                                try clear c28b0
                                                try clear c28b1
                                                try clear c29
                                                try clear c31
                                                try clear c31b0
                                                try clear c31b1
                                                try clear c32
                                                try clear c33
                                                try clear c33b0
                                                try clear c33b1
                                                try clear c36
                                                try clear c36b0
                                                try clear c36b1
                                                try clear p2
                                                obtain ⟨kq, x63_34, rfl, HA, HJ34, ⟨mc34, rfl⟩⟩ := hcut
                                                cases kq with
                                                | zero => exact absurd HA.out (by simp [alu_Do.j7])
                                                | succ kj34 =>
                                                  have H := HA.out
                                                  clear HA
                                                  simp only [alu_Do.j7] at H
                                                  by_cases c37 : x63_34 = true
                                                  · subst c37
                                                    have H1 : (some (Go.bits .or .u64 a1 a2, true)) = some (r1, r2) := by rw [if_pos rfl] at H; exact H
                                                    clear H
                                                    have H := H1
                                                    clear H1
                                                    simp only [Option.some.injEq, Prod.mk.injEq] at H
                                                    obtain ⟨rfl, rfl⟩ := H
                                                    go_wp2
                                                    go_ret2
                                                    exact ⟨by first | rfl | (simp; done) | (simp [*]; done) | (exfalso; simp_all; done), by repeat (first | exact Drawn0.refl _ | apply Drawn0.step)⟩
                                                  · replace c37 := Bool.eq_false_iff.mpr c37
                                                    subst c37
                                                    have H1 : (if a0 = 40 then (some (Go.bits .and .u64 a1 a2, true)) else (if a0 = 27 then (some (Go.bits .and .u64 a1 a2, true)) else ((alu_half.f kj34 a0 a1 a2).bind fun bt108 => (some (bt108.1, bt108.2))))) = some (r1, r2) := by rw [if_neg (show ¬ (false = true) by decide)] at H; exact H
                                                    clear H
                                                    have H := H1
                                                    clear H1
                                                    by_cases c38 : a0 = 40
                                                    · rw [if_pos c38] at H
                                                      have c38b0 : (a0 == 40) = true := beq_iff_eq.mpr c38
                                                      have c38b1 : (a0 != 40) = false := bne_eq_false_iff_eq.mpr c38
                                                      clear c38
                                                      simp only [Option.some.injEq, Prod.mk.injEq] at H
                                                      obtain ⟨rfl, rfl⟩ := H
                                                      go_wp2
                                                      go_ret2
                                                      exact ⟨by first | rfl | (simp; done) | (simp [*]; done) | (exfalso; simp_all; done), by repeat (first | exact Drawn0.refl _ | apply Drawn0.step)⟩
                                                    · rw [if_neg c38] at H
                                                      have c38b0 : (a0 == 40) = false := beq_eq_false_iff_ne.mpr c38
                                                      have c38b1 : (a0 != 40) = true := bne_iff_ne.mpr c38
                                                      by_cases c39 : a0 = 27
                                                      · rw [if_pos c39] at H
                                                        have c39b0 : (a0 == 27) = true := beq_iff_eq.mpr c39
                                                        have c39b1 : (a0 != 27) = false := bne_eq_false_iff_eq.mpr c39
                                                        clear c39
                                                        simp only [Option.some.injEq, Prod.mk.injEq] at H
                                                        obtain ⟨rfl, rfl⟩ := H
                                                        go_wp2
                                                        go_ret2
                                                        exact ⟨by first | rfl | (simp; done) | (simp [*]; done) | (exfalso; simp_all; done), by repeat (first | exact Drawn0.refl _ | apply Drawn0.step)⟩
                                                      · rw [if_neg c39] at H
                                                        have c39b0 : (a0 == 27) = false := beq_eq_false_iff_ne.mpr c39
                                                        have c39b1 : (a0 != 27) = true := bne_iff_ne.mpr c39
                                                        replace H := Option.bind_eq_some_iff.mp H
                                                        obtain ⟨⟨t108, t109⟩, A400, H⟩ := H
                                                        replace H : (some (t108, t109)) = some (r1, r2) := H
                                                        have A40 := Aside0.mk A400
                                                        clear A400
                                                        simp only [Option.some.injEq, Prod.mk.injEq] at H
                                                        obtain ⟨rfl, rfl⟩ := H
                                                        go_wp2_with (first | ((with_reducible refine gate_callee (f := 18) rfl ?_); refine goesL_ (some 78) rfl rfl Try.func18 (by kernel_rfl) rfl #[.int .i64 a0, .int .u64 a1, .int .u64 a2] rfl (by (try simp only [List.map_toArray, List.map_cons, List.map_nil]); first | done | rfl | (simp only [List.length_drop, List.length_take]; rfl)) ?_; (with_reducible refine (alu_half.calls kj34 a0 a1 a2 t108 t109 _ A40.out).mono ?_); rintro e w' ⟨rfl, ⟨nd, rfl⟩⟩; refine ⟨_, rfl, ?_⟩))
                                                        go_ret2
                                                        exact ⟨by first | rfl | (simp; done) | (simp [*]; done) | (exfalso; simp_all; done), by repeat (first | exact Drawn0.refl _ | apply Drawn0.step)⟩

end Go.Proofs.Ytijckgnhkmgpnaa.PAll
