/- Package trap, walked by hand: what each function answers and leaves, for every state. -/
import Derived.Test.YtnknfepbekaobaaTa
import Derived.Deep.RegionHeld3
import Derived.StillTail
import Derived.Lib.QuietBelow
/- How the hart leaves its way and comes back (package trap), walked by hand. -/
namespace Go.Proofs.Ytnknfepbekaobaa.H
open Go.RowKit Go.Proofs.YtnknfepbekaobaaW.PrintWords Go.Proofs.YtnknfepbekaobaaW.PrintLast Go.Proofs.Ytnknfepbekaobaa.PAl Go.Proofs.Ytnknfepbekaobaa.Pure Go.Proofs.Ytnknfepbekaobaa.Vw
set_option linter.unusedVariables false
set_option linter.unusedSimpArgs false
abbrev trapC (c : Int) (v : Nat) (b : Bool) : Array Value := #[.int .i64 c, .int .u64 (v : Int), .bool b]
def codeW (c : Nat) (b : Bool) : Nat := if b = true then c ||| 9223372036854775808 else c
def targetW (x c : Nat) (b : Bool) : Nat := if x % 2 = 1 ∧ b = true then (minus x 3 + 4 * c) % 18446744073709551616 else minus x 3
def delegW (s : VS) (c : Nat) (b : Bool) : Bool := if s.m = 3 then false else bitW (s.r (if b = true then 3 else 2)) c
set_option maxHeartbeats 8000000 in
set_option maxRecDepth 100000 in
theorem code_c (c : Nat) (v : Nat) (b : Bool) (w : World) (hc : c < 64) :
    Calls Try.prog 39 #[.agg (trapC c v b)] w fun e w' => e = .returned (.int .u64 ((codeW c b : Nat) : Int)) ∧ KpN w w' := by
  have e1 : IntKind.u64.wrap (c : Int) = (c : Int) := u64_nat c (by omega)
  have e2 : bits .or .u64 (c : Int) 9223372036854775808 = ((c ||| 9223372036854775808 : Nat) : Int) := or_l ⟨by omega⟩
  cases b
  · go_enter Try.func39, Try.ntmps39
    go_wp2
    go_ret
    exact ⟨rfl, (Kp.refl _ _).alloc _⟩
  · go_enter Try.func39, Try.ntmps39
    go_wp2
    go_ret
    exact ⟨rfl, (Kp.refl _ _).alloc _⟩
set_option maxHeartbeats 8000000 in
set_option maxRecDepth 100000 in
theorem target_c (x c : Nat) (v : Nat) (b : Bool) (w : World) (hx : U x) (hc : c < 64) :
    Calls Try.prog 41 #[.int .u64 (x : Int), .agg (trapC c v b)] w fun e w' => e = .returned (.int .u64 ((targetW x c b : Nat) : Int)) ∧ KpN w w' := by
  have e1 : IntKind.u64.wrap (c : Int) = (c : Int) := u64_nat c (by omega)
  have e2 : bits .and .u64 (x : Int) 1 = ((x % 2 : Nat) : Int) := by rw [← Nat.and_one_is_mod]; exact and_l hx
  have e3 : bits .andNot .u64 (x : Int) 3 = ((minus x 3 : Nat) : Int) := minus_l hx
  have e4 : IntKind.u64.wrap (((minus x 3 : Nat) : Int) + 4 * (c : Int)) = (((minus x 3 + 4 * c) % 18446744073709551616 : Nat) : Int) := by
    rw [IntKind.wrap_u64]; omega
  by_cases h : x % 2 = 1
  · have t1 : ((x : Int) % 2 == 1) = true := beq_iff_eq.2 (by omega)
    have q : targetW x c b = if b = true then (minus x 3 + 4 * c) % 18446744073709551616 else minus x 3 := by
      unfold targetW; cases b <;> simp [h]
    rw [q]; clear q h
    cases b
    · go_enter Try.func41, Try.ntmps41
      go_wp2
      go_ret
      exact ⟨rfl, (Kp.refl _ _).alloc _⟩
    · go_enter Try.func41, Try.ntmps41
      go_wp2
      go_ret
      exact ⟨rfl, (Kp.refl _ _).alloc _⟩
  · have t1 : ((x : Int) % 2 == 1) = false := beq_eq_false_iff_ne.2 (by omega)
    have q : targetW x c b = minus x 3 := by
      unfold targetW; rw [if_neg (fun e => h e.1)]
    rw [q]; clear q h
    go_enter Try.func41, Try.ntmps41
    go_wp2
    go_ret
    exact ⟨rfl, (Kp.refl _ _).alloc _⟩
set_option maxHeartbeats 8000000 in
set_option maxRecDepth 100000 in
theorem deleg_c (g : Nat) (s : VS) (c : Nat) (v : Nat) (b : Bool) (w : World) (hI : St FT w g s) (hs : s.ok) (hc : c < 64) :
    Calls Try.prog 12 #[.pointer (some ⟨g, 0, none⟩), .agg (trapC c v b)] w fun e w' => e = .returned (.bool (delegW s c b)) ∧ KpN w w' := by
  have c0 := hI.c0
  have c2 := hI.c 2
  have c3 := hI.c 3
  have hg := hI.lt
  have t1 : decide ((c : Int) < 0) = false := decide_eq_false (by omega)
  have t2 : decide (63 < (c : Int)) = false := decide_eq_false (by omega)
  by_cases h : s.m = 3
  · have t3 : (s.m == 3) = true := beq_iff_eq.2 h
    have q : delegW s c b = false := if_pos h
    rw [q]; clear q h
    go_enter Try.func12, Try.ntmps12
    go_wp2
    go_ret
    exact ⟨rfl, (Kp.refl _ _).alloc _⟩
  · have t3 : (s.m == 3) = false := beq_eq_false_iff_ne.2 h
    have q : delegW s c b = bitW (s.r (if b = true then 3 else 2)) c := if_neg h
    rw [q]; clear q h
    have H2 := Aside0.mk (hs 2)
    have H3 := Aside0.mk (hs 3)
    cases b
    · go_enter Try.func12, Try.ntmps12
      go_wp2
      go_quiet ((go_at_call 37; exact Calls.quiet_of (bit_c _ _ _ H2.out)))
      go_wp2
      go_ret
      exact ⟨rfl, ((Kp.refl _ _).alloc _).drewN _⟩
    · go_enter Try.func12, Try.ntmps12
      go_wp2
      go_quiet ((go_at_call 37; exact Calls.quiet_of (bit_c _ _ _ H3.out)))
      go_wp2
      go_ret
      exact ⟨rfl, ((Kp.refl _ _).alloc _).drewN _⟩
end Go.Proofs.Ytnknfepbekaobaa.H
/- Package trap, walked by hand: who may wait and fence; causes. -/
namespace Go.Proofs.Ytnknfepbekaobaa.H
open Go.RowKit Go.Proofs.YtnknfepbekaobaaW.PrintWords Go.Proofs.YtnknfepbekaobaaW.PrintLast Go.Proofs.Ytnknfepbekaobaa.PAl Go.Proofs.Ytnknfepbekaobaa.Pure Go.Proofs.Ytnknfepbekaobaa.Vw
set_option linter.unusedVariables false
set_option linter.unusedSimpArgs false
set_option maxHeartbeats 8000000 in
set_option maxRecDepth 100000 in
theorem wait_c (g : Nat) (s : VS) (w : World) (hI : St FT w g s) (hs : s.ok) :
    Calls Try.prog 25 #[.pointer (some ⟨g, 0, none⟩)] w fun e w' => e = .returned (.bool (s.m == 3 || !bitW (s.r 1) 21)) ∧ ∃ m, w' = w.drewN m := by
  have c0 := hI.c0
  by_cases h : s.m = 3
  · have t3 : (s.m == 3) = true := beq_iff_eq.2 h
    rw [t3]; clear h
    go_enter Try.func25, Try.ntmps25
    go_wp2
    go_ret
    exact ⟨rfl, 0, rfl⟩
  · have t3 : (s.m == 3) = false := beq_eq_false_iff_ne.2 h
    rw [t3]; clear h
    go_enter Try.func25, Try.ntmps25
    go_wp2_with (go_at_call 20; refine (is_c g s 21 _ hI hs).mono ?_; rintro e w' ⟨rfl, m, rfl⟩)
    go_ret
    exact ⟨rfl, m, rfl⟩
set_option maxHeartbeats 8000000 in
set_option maxRecDepth 100000 in
theorem fence_c (g : Nat) (s : VS) (w : World) (hI : St FT w g s) (hs : s.ok) :
    Calls Try.prog 27 #[.pointer (some ⟨g, 0, none⟩)] w fun e w' => e = .returned (.bool (s.m == 3 || (s.m == 1 && !bitW (s.r 1) 20))) ∧ ∃ m, w' = w.drewN m := by
  have c0 := hI.c0
  by_cases h : s.m = 3
  · have t3 : (s.m == 3) = true := beq_iff_eq.2 h
    rw [t3]; clear h
    go_enter Try.func27, Try.ntmps27
    go_wp2
    go_ret
    exact ⟨rfl, 0, rfl⟩
  have t3 : (s.m == 3) = false := beq_eq_false_iff_ne.2 h
  rw [t3]; clear h
  by_cases h : s.m = 1
  · have t1 : (s.m == 1) = true := beq_iff_eq.2 h
    rw [t1]; clear h
    go_enter Try.func27, Try.ntmps27
    go_wp2_with (go_at_call 20; refine (is_c g s 20 _ hI hs).mono ?_; rintro e w' ⟨rfl, m, rfl⟩)
    go_ret
    exact ⟨rfl, m, rfl⟩
  · have t1 : (s.m == 1) = false := beq_eq_false_iff_ne.2 h
    rw [t1]; clear h
    go_enter Try.func27, Try.ntmps27
    go_wp2
    go_ret
    exact ⟨rfl, 0, rfl⟩
set_option maxHeartbeats 8000000 in
set_option maxRecDepth 100000 in
theorem call_c (g : Nat) (s : VS) (w : World) (hI : St FT w g s) :
    Calls Try.prog 28 #[.pointer (some ⟨g, 0, none⟩)] w fun e w' => e = .returned (.int .i64 (if s.m = 0 then 8 else if s.m = 1 then 9 else 11)) ∧ w' = w := by
  have c0 := hI.c0
  by_cases h : s.m = 0
  · have t3 : (s.m == 0) = true := beq_iff_eq.2 h
    rw [if_pos h]; clear h
    go_enter Try.func28, Try.ntmps28
    go_wp2
    go_ret
    exact ⟨rfl, rfl⟩
  have t3 : (s.m == 0) = false := beq_eq_false_iff_ne.2 h
  rw [if_neg h]; clear h
  by_cases h : s.m = 1
  · have t1 : (s.m == 1) = true := beq_iff_eq.2 h
    rw [if_pos h]; clear h
    go_enter Try.func28, Try.ntmps28
    go_wp2
    go_ret
    exact ⟨rfl, rfl⟩
  · have t1 : (s.m == 1) = false := beq_eq_false_iff_ne.2 h
    rw [if_neg h]; clear h
    go_enter Try.func28, Try.ntmps28
    go_wp2
    go_ret
    exact ⟨rfl, rfl⟩
end Go.Proofs.Ytnknfepbekaobaa.H
/- Package trap, walked by hand: the causes of faults; the first interrupt of some. -/
namespace Go.Proofs.Ytnknfepbekaobaa.H
open Go.RowKit Go.Proofs.YtnknfepbekaobaaW.PrintWords Go.Proofs.YtnknfepbekaobaaW.PrintLast Go.Proofs.Ytnknfepbekaobaa.PAl Go.Proofs.Ytnknfepbekaobaa.Pure Go.Proofs.Ytnknfepbekaobaa.Vw
set_option linter.unusedVariables false
set_option linter.unusedSimpArgs false
def faultW (k : Int) (p : Bool) : Int := if k = 0 then (if p = true then 12 else 1) else if k = 1 then (if p = true then 13 else 5) else (if p = true then 15 else 7)
def crookedW (k : Int) : Int := if k = 0 then 0 else if k = 1 then 4 else 6
set_option maxHeartbeats 8000000 in
set_option maxRecDepth 100000 in
theorem fault_c (k : Int) (p : Bool) (w : World) :
    Calls Try.prog 29 #[.int .i64 k, .bool p] w fun e w' => e = .returned (.int .i64 (faultW k p)) ∧ w' = w := by
  have hcase : ((k == 0) = true ∧ (k == 1) = false ∧ faultW k p = if p = true then 12 else 1) ∨ ((k == 0) = false ∧ (k == 1) = true ∧ faultW k p = if p = true then 13 else 5) ∨ ((k == 0) = false ∧ (k == 1) = false ∧ faultW k p = if p = true then 15 else 7) := by
    unfold faultW
    by_cases h : k = 0
    · exact .inl ⟨beq_iff_eq.2 h, beq_eq_false_iff_ne.2 (by omega), if_pos h⟩
    by_cases h1 : k = 1
    · exact .inr (.inl ⟨beq_eq_false_iff_ne.2 h, beq_iff_eq.2 h1, by rw [if_neg h, if_pos h1]⟩)
    · exact .inr (.inr ⟨beq_eq_false_iff_ne.2 h, beq_eq_false_iff_ne.2 h1, by rw [if_neg h, if_neg h1]⟩)
  rcases hcase with ⟨t1, t2, q⟩ | ⟨t1, t2, q⟩ | ⟨t1, t2, q⟩
  all_goals
    rw [q]; clear q
    cases p
    all_goals
      go_enter Try.func29, Try.ntmps29
      go_wp2
      go_ret
      exact ⟨rfl, rfl⟩
set_option maxHeartbeats 8000000 in
set_option maxRecDepth 100000 in
theorem crooked_c (k : Int) (w : World) :
    Calls Try.prog 31 #[.int .i64 k] w fun e w' => e = .returned (.int .i64 (crookedW k)) ∧ w' = w := by
  have hcase : ((k == 0) = true ∧ (k == 1) = false ∧ crookedW k = 0) ∨ ((k == 0) = false ∧ (k == 1) = true ∧ crookedW k = 4) ∨ ((k == 0) = false ∧ (k == 1) = false ∧ crookedW k = 6) := by
    unfold crookedW
    by_cases h : k = 0
    · exact .inl ⟨beq_iff_eq.2 h, beq_eq_false_iff_ne.2 (by omega), if_pos h⟩
    by_cases h1 : k = 1
    · exact .inr (.inl ⟨beq_eq_false_iff_ne.2 h, beq_iff_eq.2 h1, by rw [if_neg h, if_pos h1]⟩)
    · exact .inr (.inr ⟨beq_eq_false_iff_ne.2 h, beq_eq_false_iff_ne.2 h1, by rw [if_neg h, if_neg h1]⟩)
  rcases hcase with ⟨t1, t2, q⟩ | ⟨t1, t2, q⟩ | ⟨t1, t2, q⟩
  all_goals
    rw [q]; clear q
    go_enter Try.func31, Try.ntmps31
    go_wp2
    go_ret
    exact ⟨rfl, rfl⟩
def firstL (x : Nat) : List Int → Int
  | [] => -1
  | n :: l => if bitW x n = true then n else firstL x l
def intsL : List Int := [11, 3, 7, 9, 1, 5]
def firstW (x : Nat) : Int := firstL x intsL
end Go.Proofs.Ytnknfepbekaobaa.H
/- Package trap, walked by hand: the first interrupt of some. -/
namespace Go.Proofs.Ytnknfepbekaobaa.H
open Go.RowKit Go.Proofs.YtnknfepbekaobaaW.PrintWords Go.Proofs.YtnknfepbekaobaaW.PrintLast Go.Proofs.Ytnknfepbekaobaa.PAl Go.Proofs.Ytnknfepbekaobaa.Pure Go.Proofs.Ytnknfepbekaobaa.Vw
set_option linter.unusedVariables false
set_option linter.unusedSimpArgs false
theorem first_drop {x i : Nat} (h : i < 6) : firstL x (intsL.drop i) = if bitW x (intsL.getD i 0) = true then intsL.getD i 0 else firstL x (intsL.drop (i + 1)) := by
  have : i = 0 ∨ i = 1 ∨ i = 2 ∨ i = 3 ∨ i = 4 ∨ i = 5 := by omega
  rcases this with rfl | rfl | rfl | rfl | rfl | rfl <;> rfl
set_option maxHeartbeats 8000000 in
set_option maxRecDepth 100000 in
theorem first_c (x : Nat) (w : World) (hx : U x) :
    Calls Try.prog 46 #[.int .u64 (x : Int)] w fun e w' => e = .returned (.int .i64 (firstW x)) ∧ ∃ m, w' = w.drewN m := by
  have hx0 : ∀ W : World, (Instr.index 98 (.agg #[.int .i64 11, .int .i64 3, .int .i64 7, .int .i64 9, .int .i64 1, .int .i64 5]) (.int .i64 0)).run Try.prog W = .ok (.int .i64 11) W := fun _ => by kernel_rfl
  have hx1 : ∀ W : World, (Instr.index 98 (.agg #[.int .i64 11, .int .i64 3, .int .i64 7, .int .i64 9, .int .i64 1, .int .i64 5]) (.int .i64 1)).run Try.prog W = .ok (.int .i64 3) W := fun _ => by kernel_rfl
  have hx2 : ∀ W : World, (Instr.index 98 (.agg #[.int .i64 11, .int .i64 3, .int .i64 7, .int .i64 9, .int .i64 1, .int .i64 5]) (.int .i64 2)).run Try.prog W = .ok (.int .i64 7) W := fun _ => by kernel_rfl
  have hx3 : ∀ W : World, (Instr.index 98 (.agg #[.int .i64 11, .int .i64 3, .int .i64 7, .int .i64 9, .int .i64 1, .int .i64 5]) (.int .i64 3)).run Try.prog W = .ok (.int .i64 9) W := fun _ => by kernel_rfl
  have hx4 : ∀ W : World, (Instr.index 98 (.agg #[.int .i64 11, .int .i64 3, .int .i64 7, .int .i64 9, .int .i64 1, .int .i64 5]) (.int .i64 4)).run Try.prog W = .ok (.int .i64 1) W := fun _ => by kernel_rfl
  have hx5 : ∀ W : World, (Instr.index 98 (.agg #[.int .i64 11, .int .i64 3, .int .i64 7, .int .i64 9, .int .i64 1, .int .i64 5]) (.int .i64 5)).run Try.prog W = .ok (.int .i64 5) W := fun _ => by kernel_rfl
  have HXs := Aside0.mk hx0
  go_enter Try.func46, Try.ntmps46
  go_wp2
  go_loopw [6] (fun i W => ∃ (k : Nat) (z : Int), z = k ∧ k ≤ 6 ∧ i = .int .i64 z ∧ Aside0 (firstL x (intsL.drop k) = firstW x) ∧ ∃ m, W = w.drewN m) (fun i _ => 6 - (intOf i).toNat)
  case atStart => exact ⟨0, 0, rfl, by omega, rfl, ⟨rfl⟩, 0, rfl⟩
  case round =>
    obtain ⟨k, z, hz, hk, rfl, HF, m, rfl⟩ := hrel
    have HX := Aside0.mk hx
    have hk6 : k = 6 ∨ k = 0 ∨ k = 1 ∨ k = 2 ∨ k = 3 ∨ k = 4 ∨ k = 5 := by omega
    clear hk hx
    rcases hk6 with rfl | rfl | rfl | rfl | rfl | rfl | rfl
    · obtain rfl : z = 6 := by omega
      clear hz
      go_wp2
      go_ret
      exact ⟨congrArg (fun z => Ending.returned (.int .i64 z)) HF.out, m, rfl⟩
    · obtain rfl : z = 0 := by omega
      have HD : Aside0 (firstW x = if bitW x 11 = true then (11 : Int) else firstL x (intsL.drop 1)) := ⟨HF.out.symm⟩
      clear hz HF
      by_cases hb : bitW x 11 = true
      · have HB := Aside0.mk hb
        clear hb
        go_wp2_with (go_at_call 37; refine (bit_c _ _ _ HX.out).mono ?_; rw [HB.out]; rintro e w' ⟨rfl, m2, rfl⟩)
        go_ret
        exact ⟨congrArg (fun z => Ending.returned (.int .i64 z)) (HD.out.trans (if_pos HB.out)).symm, m + m2, rfl⟩
      · have HB := Aside0.mk (Bool.not_eq_true _ ▸ hb)
        clear hb
        go_wp2_with (go_at_call 37; refine (bit_c _ _ _ HX.out).mono ?_; rw [HB.out]; rintro e w' ⟨rfl, m2, rfl⟩)
        go_roundw
        case rel => exact ⟨1, 1, rfl, by decide, by go_num, ⟨(HD.out.trans (if_neg (by rw [HB.out]; exact Bool.false_ne_true))).symm⟩, m + m2, rfl⟩
        case measure => simp [intOf]
    · obtain rfl : z = 1 := by omega
      have HD : Aside0 (firstW x = if bitW x 3 = true then (3 : Int) else firstL x (intsL.drop 2)) := ⟨HF.out.symm⟩
      clear hz HF
      by_cases hb : bitW x 3 = true
      · have HB := Aside0.mk hb
        clear hb
        go_wp2_with (go_at_call 37; refine (bit_c _ _ _ HX.out).mono ?_; rw [HB.out]; rintro e w' ⟨rfl, m2, rfl⟩)
        go_ret
        exact ⟨congrArg (fun z => Ending.returned (.int .i64 z)) (HD.out.trans (if_pos HB.out)).symm, m + m2, rfl⟩
      · have HB := Aside0.mk (Bool.not_eq_true _ ▸ hb)
        clear hb
        go_wp2_with (go_at_call 37; refine (bit_c _ _ _ HX.out).mono ?_; rw [HB.out]; rintro e w' ⟨rfl, m2, rfl⟩)
        go_roundw
        case rel => exact ⟨2, 2, rfl, by decide, by go_num, ⟨(HD.out.trans (if_neg (by rw [HB.out]; exact Bool.false_ne_true))).symm⟩, m + m2, rfl⟩
        case measure => simp [intOf]
    · obtain rfl : z = 2 := by omega
      have HD : Aside0 (firstW x = if bitW x 7 = true then (7 : Int) else firstL x (intsL.drop 3)) := ⟨HF.out.symm⟩
      clear hz HF
      by_cases hb : bitW x 7 = true
      · have HB := Aside0.mk hb
        clear hb
        go_wp2_with (go_at_call 37; refine (bit_c _ _ _ HX.out).mono ?_; rw [HB.out]; rintro e w' ⟨rfl, m2, rfl⟩)
        go_ret
        exact ⟨congrArg (fun z => Ending.returned (.int .i64 z)) (HD.out.trans (if_pos HB.out)).symm, m + m2, rfl⟩
      · have HB := Aside0.mk (Bool.not_eq_true _ ▸ hb)
        clear hb
        go_wp2_with (go_at_call 37; refine (bit_c _ _ _ HX.out).mono ?_; rw [HB.out]; rintro e w' ⟨rfl, m2, rfl⟩)
        go_roundw
        case rel => exact ⟨3, 3, rfl, by decide, by go_num, ⟨(HD.out.trans (if_neg (by rw [HB.out]; exact Bool.false_ne_true))).symm⟩, m + m2, rfl⟩
        case measure => simp [intOf]
    · obtain rfl : z = 3 := by omega
      have HD : Aside0 (firstW x = if bitW x 9 = true then (9 : Int) else firstL x (intsL.drop 4)) := ⟨HF.out.symm⟩
      clear hz HF
      by_cases hb : bitW x 9 = true
      · have HB := Aside0.mk hb
        clear hb
        go_wp2_with (go_at_call 37; refine (bit_c _ _ _ HX.out).mono ?_; rw [HB.out]; rintro e w' ⟨rfl, m2, rfl⟩)
        go_ret
        exact ⟨congrArg (fun z => Ending.returned (.int .i64 z)) (HD.out.trans (if_pos HB.out)).symm, m + m2, rfl⟩
      · have HB := Aside0.mk (Bool.not_eq_true _ ▸ hb)
        clear hb
        go_wp2_with (go_at_call 37; refine (bit_c _ _ _ HX.out).mono ?_; rw [HB.out]; rintro e w' ⟨rfl, m2, rfl⟩)
        go_roundw
        case rel => exact ⟨4, 4, rfl, by decide, by go_num, ⟨(HD.out.trans (if_neg (by rw [HB.out]; exact Bool.false_ne_true))).symm⟩, m + m2, rfl⟩
        case measure => simp [intOf]
    · obtain rfl : z = 4 := by omega
      have HD : Aside0 (firstW x = if bitW x 1 = true then (1 : Int) else firstL x (intsL.drop 5)) := ⟨HF.out.symm⟩
      clear hz HF
      by_cases hb : bitW x 1 = true
      · have HB := Aside0.mk hb
        clear hb
        go_wp2_with (go_at_call 37; refine (bit_c _ _ _ HX.out).mono ?_; rw [HB.out]; rintro e w' ⟨rfl, m2, rfl⟩)
        go_ret
        exact ⟨congrArg (fun z => Ending.returned (.int .i64 z)) (HD.out.trans (if_pos HB.out)).symm, m + m2, rfl⟩
      · have HB := Aside0.mk (Bool.not_eq_true _ ▸ hb)
        clear hb
        go_wp2_with (go_at_call 37; refine (bit_c _ _ _ HX.out).mono ?_; rw [HB.out]; rintro e w' ⟨rfl, m2, rfl⟩)
        go_roundw
        case rel => exact ⟨5, 5, rfl, by decide, by go_num, ⟨(HD.out.trans (if_neg (by rw [HB.out]; exact Bool.false_ne_true))).symm⟩, m + m2, rfl⟩
        case measure => simp [intOf]
    · obtain rfl : z = 5 := by omega
      have HD : Aside0 (firstW x = if bitW x 5 = true then (5 : Int) else firstL x (intsL.drop 6)) := ⟨HF.out.symm⟩
      clear hz HF
      by_cases hb : bitW x 5 = true
      · have HB := Aside0.mk hb
        clear hb
        go_wp2_with (go_at_call 37; refine (bit_c _ _ _ HX.out).mono ?_; rw [HB.out]; rintro e w' ⟨rfl, m2, rfl⟩)
        go_ret
        exact ⟨congrArg (fun z => Ending.returned (.int .i64 z)) (HD.out.trans (if_pos HB.out)).symm, m + m2, rfl⟩
      · have HB := Aside0.mk (Bool.not_eq_true _ ▸ hb)
        clear hb
        go_wp2_with (go_at_call 37; refine (bit_c _ _ _ HX.out).mono ?_; rw [HB.out]; rintro e w' ⟨rfl, m2, rfl⟩)
        go_roundw
        case rel => exact ⟨6, 6, rfl, by decide, by go_num, ⟨(HD.out.trans (if_neg (by rw [HB.out]; exact Bool.false_ne_true))).symm⟩, m + m2, rfl⟩
        case measure => simp [intOf]
end Go.Proofs.Ytnknfepbekaobaa.H
/- The document's answer for traps (vireoref09), walked by hand: bits of the status, who takes a trap. -/
namespace Go.Proofs.Ytnknfepbekaobaa.H
open Go.RowKit Go.Proofs.YtnknfepbekaobaaW.PrintWords Go.Proofs.YtnknfepbekaobaaW.PrintLast Go.Proofs.Ytnknfepbekaobaa.PAl Go.Proofs.Ytnknfepbekaobaa.Pure Go.Proofs.Ytnknfepbekaobaa.Vw
set_option linter.unusedVariables false
set_option linter.unusedSimpArgs false
def flagW (b : Bool) : Nat := if b = true then 1 else 0
theorem flagW_ok (b : Bool) : U (flagW b) := ⟨by cases b <;> decide⟩
set_option maxHeartbeats 8000000 in
set_option maxRecDepth 100000 in
theorem flag_r (b : Bool) (w : World) :
    Calls Try.prog 43 #[.bool b] w fun e w' => e = .returned (.int .u64 ((flagW b : Nat) : Int)) ∧ w = w' := by
  cases b
  all_goals
    go_enter Try.func43, Try.ntmps43
    go_wp2
    go_ret
    exact ⟨rfl, rfl⟩
set_option maxHeartbeats 8000000 in
set_option maxRecDepth 100000 in
theorem is_r (s : VS) (n : Int) (w : World) (hs : s.ok) :
    Calls Try.prog 26 #[.agg s.cells, .int .i64 n] w fun e w' => e = .returned (.bool (bitW (s.r 1) n)) ∧ KpN w w' := by
  go_enter Try.func26, Try.ntmps26
  go_wp2_with (first | ((with_reducible refine gate_dst (N := 2) rfl ?_); refine bx_ev rfl rfl (N := 2) rfl (s.cells) rfl ?_; intro g hg_g w1 hb_g hk_g; have Hg_g := Aside0.mk hg_g; clear hg_g) | ((with_reducible refine gate_dst (N := 5) rfl ?_); refine wpList_load_row rfl 34 _ rfl g rfl _ (s.cells) (0, 0) _ (hb_g) Try.underlying34 rfl infoR ?_) | (go_at_call 38; refine (rbit_l s 0 n _ hs (by decide)).mono ?_; rintro e w2 ⟨rfl, hk2⟩))
  go_ret
  exact ⟨rfl, hk_g.trans hk2⟩
def rsetW (s : VS) (n : Int) (b : Bool) : VS := s.set 1 (putW (s.r 1) n 1 (flagW b))
theorem rsetW_ok {s : VS} (h : s.ok) (n : Int) (b : Bool) : (rsetW s n b).ok := VS.set_ok h _ ((h 1).put _ _ _)
set_option maxHeartbeats 8000000 in
set_option maxRecDepth 100000 in
theorem set_r (s : VS) (n : Int) (b : Bool) (w : World) (hs : s.ok) :
    Calls Try.prog 44 #[.agg s.cells, .int .i64 n, .bool b] w fun e w' => e = .returned (.agg (rsetW s n b).cells) ∧ KpN w w' := by
  have hf : U (flagW b) := flagW_ok b
  go_enter Try.func44, Try.ntmps44
  go_wp2_with (first | ((with_reducible refine gate_dst (N := 3) rfl ?_); refine bx_ev rfl rfl (N := 3) rfl (s.cells) rfl ?_; intro g hg_g w1 hb_g hk_g; have Hg_g := Aside0.mk hg_g; clear hg_g) | (((with_reducible refine gate_dst (N := 6) rfl ?_); refine al_ev rfl rfl (N := 6) rfl _ (zeroR _) ?_; intro h hg_h w2 hb_h hk_h; have Hg_h := Aside0.mk hg_h; clear hg_h); have hI2 : St RT w2 g s := (St.mk hb_g).kp hk_h (fun h => h); have c1 := hI2.c 1; have f1 := hI2.f 1))
  have hgh : h ≠ g := by have := Hg_h.out; have := blk_lt hb_g; omega
  have hgw : w.heap.size ≤ g := by have := Hg_g.out; omega
  have hhw : w.heap.size ≤ h := by have := Hg_h.out; have := hk_g.size; omega
  have hR2 : St RT w2 h (VS.mk 0 fun _ => 0) := St.mk hb_h
  have K2 := hk_g.trans hk_h
  clear hb_g hb_h hk_g hk_h Hg_g Hg_h
  go_region_with (first
    | (go_at_call 43; refine (flag_r b _).mono ?_; rintro e w3 ⟨rfl, rfl⟩)
    | (go_at_call 45; refine (putr_c (s.r 1) n 1 (flagW b) _ (hs 1) hf).mono ?_; rintro e w4 ⟨rfl, hk4⟩; have hI4 : St RT w4 g s := hI2.drew.kp hk4 (fun h => h); have c1b := hI4.c 1; have f1b := hI4.f 1))
  all_goals
    have hR4 : St RT w4 h (VS.mk 0 fun _ => 0) := hR2.drew.kp hk4 (fun h => h)
    have K4 := K2.drew.trans hk4
    clear hk4 hI2 hR2
    go_wp2_with (first | ((with_reducible refine gate_dst (N := 16) rfl ?_); refine wpList_load_row rfl 34 _ rfl g rfl _ ((rsetW s n b).cells) (0, 0) _ ((hI4.set 1 _).blk) Try.underlying34 rfl infoR ?_) | ((with_reducible refine gate_store (t := 34) (p := 6) rfl ?_); refine st_ev rfl rfl rfl h ((rsetW s n b).cells) _ _ rfl rfl ((hR4.far hgh _).blk) infoR rfl (VS.one _) ?_; intro wz hs_wz ks_wz))
    refine bodyPost_ret (results_cell_row rfl _ _ h 34 ((rsetW s n b).cells) (0, 0) _ rfl (hs_wz) Try.underlying34 rfl infoR) rfl ?_
    exact ⟨rfl, (K4.setCell (p := ⟨g, 1, none⟩) (.inr hgw) _).then ks_wz fun i hi (e : i = h) => by omega⟩
def rdelegW (s : VS) (c : Nat) (b : Bool) : Bool := if s.m = 3 then false else bitW (s.r (if b = true then 5 else 4)) c
theorem infoT : (Try.prog.info? 27).map (·.size) = some 3 := by kernel_rfl
theorem tr_c0 {W : World} {k c v : Nat} {b : Bool} {T : TypeId} (h : Bk W k (trapC c v b) T) : W.cell? ⟨k, 0, none⟩ = some (.int .i64 (c : Int)) := h.c 0
theorem tr_c1 {W : World} {k c v : Nat} {b : Bool} {T : TypeId} (h : Bk W k (trapC c v b) T) : W.cell? ⟨k, 1, none⟩ = some (.int .u64 (v : Int)) := h.c 1
theorem tr_c2 {W : World} {k c v : Nat} {b : Bool} {T : TypeId} (h : Bk W k (trapC c v b) T) : W.cell? ⟨k, 2, none⟩ = some (.bool b) := h.c 2
set_option maxHeartbeats 8000000 in
set_option maxRecDepth 100000 in
theorem deleg_r (s : VS) (c v : Nat) (b : Bool) (w : World) (hs : s.ok) :
    Calls Try.prog 13 #[.agg s.cells, .agg (trapC c v b)] w fun e w' => e = .returned (.bool (rdelegW s c b)) ∧ KpN w w' := by
  by_cases h : s.m = 3
  · have t3 : (s.m == 3) = true := beq_iff_eq.2 h
    have q : rdelegW s c b = false := if_pos h
    rw [q]; clear q h
    go_enter Try.func13, Try.ntmps13
    go_wp2_with (first | (((with_reducible refine gate_dst (N := 2) rfl ?_); refine bx_ev rfl rfl (N := 2) rfl (s.cells) rfl ?_; intro g hg_g w1 hb_g hk_g; have Hg_g := Aside0.mk hg_g; clear hg_g); have d0 := (St.mk (T := RT) hb_g).c0) | (((with_reducible refine gate_dst (N := 3) rfl ?_); refine bx_ev rfl rfl (N := 3) rfl (trapC c v b) rfl ?_; intro k hg_k w2 hb_k hk_k; have Hg_k := Aside0.mk hg_k; clear hg_k); have d0' := ((St.mk (T := RT) hb_g).kp hk_k (fun h => h)).c0))
    go_ret
    exact ⟨rfl, hk_g.trans hk_k⟩
  · have t3 : (s.m == 3) = false := beq_eq_false_iff_ne.2 h
    have q : rdelegW s c b = bitW (s.r (if b = true then 5 else 4)) c := if_neg h
    rw [q]; clear q h
    cases b
    · go_enter Try.func13, Try.ntmps13
      go_wp2_with (first
        | ((with_reducible refine gate_dst (N := 2) rfl ?_); refine bx_ev rfl rfl (N := 2) rfl (s.cells) rfl ?_; intro g hg_g w1 hb_g hk_g; have Hg_g := Aside0.mk hg_g; clear hg_g)
        | (((with_reducible refine gate_dst (N := 3) rfl ?_); refine bx_ev rfl rfl (N := 3) rfl (trapC c v false) rfl ?_; intro k hg_k w2 hb_k hk_k; have Hg_k := Aside0.mk hg_k; clear hg_k); have hI := (St.mk (T := RT) hb_g).kp hk_k (fun h => h); have d0 := hI.c0; have hT := Bk.mk hb_k; have t0 := tr_c0 hT; have t2 := tr_c2 hT)
        | ((with_reducible refine gate_dst (N := 14) rfl ?_); refine wpList_load_row rfl 34 _ rfl g rfl _ (s.cells) (0, 0) _ (hI.blk) Try.underlying34 rfl infoR ?_)
        | (go_at_call 38; refine (rbit_l s 3 c _ hs (by decide)).mono ?_; rintro e w3 ⟨rfl, hk3⟩))
      go_ret
      exact ⟨rfl, (hk_g.trans hk_k).trans hk3⟩
    · go_enter Try.func13, Try.ntmps13
      go_wp2_with (first
        | ((with_reducible refine gate_dst (N := 2) rfl ?_); refine bx_ev rfl rfl (N := 2) rfl (s.cells) rfl ?_; intro g hg_g w1 hb_g hk_g; have Hg_g := Aside0.mk hg_g; clear hg_g)
        | (((with_reducible refine gate_dst (N := 3) rfl ?_); refine bx_ev rfl rfl (N := 3) rfl (trapC c v true) rfl ?_; intro k hg_k w2 hb_k hk_k; have Hg_k := Aside0.mk hg_k; clear hg_k); have hI := (St.mk (T := RT) hb_g).kp hk_k (fun h => h); have d0 := hI.c0; have hT := Bk.mk hb_k; have t0 := tr_c0 hT; have t2 := tr_c2 hT)
        | ((with_reducible refine gate_dst (N := 10) rfl ?_); refine wpList_load_row rfl 34 _ rfl g rfl _ (s.cells) (0, 0) _ (hI.blk) Try.underlying34 rfl infoR ?_)
        | (go_at_call 38; refine (rbit_l s 4 c _ hs (by decide)).mono ?_; rintro e w3 ⟨rfl, hk3⟩))
      go_ret
      exact ⟨rfl, (hk_g.trans hk_k).trans hk3⟩
end Go.Proofs.Ytnknfepbekaobaa.H
/- Package trap, walked by hand: a trap is taken. -/
namespace Go.Proofs.Ytnknfepbekaobaa.H
open Go.RowKit Go.Proofs.YtnknfepbekaobaaW.PrintWords Go.Proofs.YtnknfepbekaobaaW.PrintLast Go.Proofs.Ytnknfepbekaobaa.PAl Go.Proofs.Ytnknfepbekaobaa.Pure Go.Proofs.Ytnknfepbekaobaa.Vw
set_option linter.unusedVariables false
set_option linter.unusedSimpArgs false
/-- What the supervisor's trap leaves. -/
def entS (s : VS) (c v : Nat) (b : Bool) (pc : Nat) : VS :=
  (setW (setW (setW (((s.set 17 (codeW c b)).set 16 (minus pc 3)).set 18 v) 5 (bitW (s.r 1) 1)) 1 false) 8 (s.m == 1)).mode 1
def entM (s : VS) (c v : Nat) (b : Bool) (pc : Nat) (k : Nat) : VS :=
  (keepW (setW (setW (((s.set 11 (codeW c b)).set 10 (minus pc 3)).set 12 v) 7 (bitW (s.r 1) 3)) 3 false) k).mode 3
theorem set_l (g : Nat) (s : VS) (b : Nat) (is : Bool) (w : World) (hI : St FT w g s) (hs : s.ok) (hb : b ≤ 63) :
    Calls Try.prog 40 #[.pointer (some ⟨g, 0, none⟩), .int .i64 (@OfNat.ofNat Int b instOfNat), .bool is] w fun e w' => e = .returned (.tuple #[]) ∧ St FT w' g (setW s b is) ∧ KpG w w' g := set_c g s b is w hI hs hb
theorem Bk.drewN {w : World} {g cs T} (h : Bk w g cs T) (n : Nat) : Bk (w.drewN n) g cs T := ⟨h.blk⟩
theorem codeW_ok {c : Nat} (h : c < 64) (b : Bool) : U (codeW c b) := by
  unfold codeW; split
  · exact (⟨by omega⟩ : U c).or U.num
  · exact ⟨by omega⟩
theorem ent0_ok {s : VS} (h : s.ok) {c v pc : Nat} (hc : c < 64) (hv : U v) (hp : U pc) (b : Bool) (i j k : Nat) : (((s.set i (codeW c b)).set j (minus pc 3)).set k v).ok :=
  VS.set_ok (VS.set_ok (VS.set_ok h _ (codeW_ok hc b)) _ hp.minus) _ hv
set_option maxHeartbeats 8000000 in
set_option maxRecDepth 100000 in
theorem enter_s (g : Nat) (s : VS) (c v : Nat) (b : Bool) (pc : Nat) (w : World) (hI : St FT w g s) (hs : s.ok) (hc : c < 64) (hv : U v) (hp : U pc) (hd : delegW s c b = true) :
    Calls Try.prog 15 #[.pointer (some ⟨g, 0, none⟩), .agg (trapC c v b), .int .u64 (pc : Int)] w fun e w' => e = .returned (.int .u64 ((targetW (s.r 13) c b : Nat) : Int)) ∧ St FT w' g (entS s c v b pc) ∧ KpG w w' g := by
  have DL : Aside0 (∀ W, St FT W g s → Calls Try.prog 12 #[.pointer (some ⟨g, 0, none⟩), .agg (trapC c v b)] W fun e w' => e = .returned (.bool true) ∧ KpN W w') := ⟨fun W h => by
    have := deleg_c g s c v b W h hs hc; rw [hd] at this; exact this⟩
  have e1 : bits .andNot .u64 (pc : Int) 3 = ((minus pc 3 : Nat) : Int) := minus_l hp
  have HP := Aside0.mk hp
  clear hd
  go_enter Try.func15, Try.ntmps15
  go_wp2_with (first
    | (((with_reducible refine gate_dst (N := 4) rfl ?_); refine bx_ev rfl rfl (N := 4) rfl (trapC c v b) rfl ?_; intro k hg_k w1 hb_k hk_k; have Hg_k := Aside0.mk hg_k; clear hg_k); have hI1 := hI.kp hk_k (fun h => h); have hT1 := Bk.mk hb_k)
    | ((with_reducible refine gate_dst (N := 8) rfl ?_); refine wpList_load_row rfl 27 _ rfl k rfl _ (trapC c v b) (0, 0) _ (hT1.blk) Try.underlying27 rfl infoT ?_)
    | (go_at_call 12; refine (DL.out _ hI1).mono ?_; rintro e w2 ⟨rfl, hk2⟩))
  have hI2 := hI1.kp hk2 (fun h => h)
  have hT2 := hT1.kp hk2 (fun h => h)
  have hgk : k ≠ g := by have := Hg_k.out; have := hI.lt; omega
  have hkw : w.heap.size ≤ k := by have := Hg_k.out; omega
  have K2 : KpN w w2 := hk_k.trans hk2
  clear hI hI1 hT1 hb_k hk_k hk2 Hg_k
  have t0 := tr_c0 hT2
  have t1 := tr_c1 hT2
  have t2 := tr_c2 hT2
  have f16 := hI2.f 16
  have f17 := hI2.f 17
  have f18 := hI2.f 18
  have c16 := hI2.c 16
  have c17 := hI2.c 17
  have c18 := hI2.c 18
  go_region_held3 (fun W => W.cell? ⟨k, 0, none⟩ = some (.int .i64 (c : Int)) ∧ W.cell? ⟨k, 1, none⟩ = some (.int .u64 (v : Int)) ∧ W.cell? ⟨k, 2, none⟩ = some (.bool b)) (first | exact ⟨t0, t1, t2⟩ | exact ⟨u0, u1, u2⟩ | simp [World.cell?_setCell_far, hgk, hgk.symm, u0, u1, u2]) (first
    | (go_at_call 39; refine (code_c c v b _ hc).mono ?_; rintro e w3 ⟨rfl, hk3⟩; have hI3 := hI2.drew.kp hk3 (fun h => h); have hT3 := hT2.drew.kp hk3 (fun h => h); have u0 := tr_c0 hT3; have u1 := tr_c1 hT3; have u2 := tr_c2 hT3; have F16 := hI3.f 16; have F17 := hI3.f 17; have F18 := hI3.f 18; have C16 := hI3.c 16; have C17 := hI3.c 17; have C18 := hI3.c 18))
  have K34 := (((Kp.refl w3 (fun i => i = g)).setCell (p := ⟨g, 17, none⟩) (.inl rfl) (.int .u64 (codeW c b : Int))).setCell (p := ⟨g, 16, none⟩) (.inl rfl) (.int .u64 (minus pc 3 : Int))).setCell (p := ⟨g, 18, none⟩) (.inl rfl) (.int .u64 (v : Int))
  have hI4 := ((hI3.set 17 (codeW c b)).set 16 (minus pc 3)).set 18 v
  generalize ((w3.setCell ⟨g, 17, none⟩ (.int .u64 (codeW c b : Int))).setCell ⟨g, 16, none⟩ (.int .u64 (minus pc 3 : Int))).setCell ⟨g, 18, none⟩ (.int .u64 (v : Int)) = w4 at hI4 K34 ⊢
  have hT4 := hT3.kp K34 hgk
  have K4 : KpG w w4 g := ((K2.drew.trans hk3).mono (fun _ _ h => h.elim)).trans K34
  have ok4 := ent0_ok hs hc hv HP.out b 17 16 18
  have S1 := setW_ok ok4 (show 5 ≤ 63 by decide) (bitW (s.r 1) 1)
  have S2 := setW_ok S1 (show 1 ≤ 63 by decide) false
  have S3 := setW_ok S2 (show 8 ≤ 63 by decide) (s.m == 1)
  clear t0 t1 t2 f16 f17 f18 c16 c17 c18 u0 u1 u2 F16 F17 F18 C16 C17 C18 hI2 hT2 K2 hk3 hI3 hT3 K34 e1 DL
  go_wp2_with (go_at_call 20; refine (is_c g _ 1 _ hI4 ok4).mono ?_; rintro e w5 ⟨rfl, m5, rfl⟩)
  refine (set_l g _ 5 _ _ (hI4.drewN m5) ok4 (by decide)).mono ?_
  rintro e w6 ⟨rfl, hI6, k6⟩
  have hT6 := (hT4.drewN m5).kp k6 hgk
  have K6 := (K4.drewN m5).trans k6
  clear hI4 hT4 K4 k6
  go_wp2_with (fail)
  refine (set_l g _ 1 _ _ hI6 S1 (by decide)).mono ?_
  rintro e w7 ⟨rfl, hI7, k7⟩
  have hT7 := hT6.kp k7 hgk
  have K7 := K6.trans k7
  have c0 : w7.cell? ⟨g, 0, none⟩ = some (.int .i64 s.m) := hI7.c0
  clear hI6 hT6 K6 k7
  go_wp2_with (fail)
  refine (set_l g _ 8 _ _ hI7 S2 (by decide)).mono ?_
  rintro e w8 ⟨rfl, hI8, k8⟩
  have hT8 := hT7.kp k8 hgk
  have K8 := K7.trans k8
  clear hI7 hT7 K7 k8 c0
  have f0 := hI8.f 0
  have d0 := hI8.c0
  go_wp2_with (fail)
  have hI9 : St FT _ g (entS s c v b pc) := hI8.set0 1
  have k89 := (Kp.refl w8 (fun i => i = g)).setCell (p := ⟨g, 0, none⟩) (.inl rfl) (.int .i64 1)
  generalize w8.setCell ⟨g, 0, none⟩ (.int .i64 1) = w9 at hI9 k89 ⊢
  have hT9 := hT8.kp k89 hgk
  have K9 := K8.trans k89
  clear hI8 hT8 K8 k89 f0 d0
  have t0 := tr_c0 hT9
  have t1 := tr_c1 hT9
  have t2 := tr_c2 hT9
  have c13 : w9.cell? ⟨g, 13, none⟩ = some (.int .u64 (s.r 13 : Int)) := hI9.c 13
  have U13 := Aside0.mk (hs 13)
  go_region_held3 (fun W => W.cell? ⟨k, 0, none⟩ = some (.int .i64 (c : Int)) ∧ W.cell? ⟨k, 1, none⟩ = some (.int .u64 (v : Int)) ∧ W.cell? ⟨k, 2, none⟩ = some (.bool b) ∧ W.cell? ⟨g, 13, none⟩ = some (.int .u64 (s.r 13 : Int))) (first | exact ⟨t0, t1, t2, c13⟩ | exact ⟨u0, u1, u2, C13⟩) (first
    | (go_at_call 41; refine (target_c (s.r 13) c v b _ U13.out hc).mono ?_; rintro e w3 ⟨rfl, hk3⟩; have hI3 := hI9.drew.kp hk3 (fun h => h); have hT3 := hT9.drew.kp hk3 (fun h => h); have u0 := tr_c0 hT3; have u1 := tr_c1 hT3; have u2 := tr_c2 hT3; have C13 : w3.cell? ⟨g, 13, none⟩ = some (.int .u64 (s.r 13 : Int)) := hI3.c 13))
  go_wp2
  go_ret
  exact ⟨rfl, hI3, K9.drew.trans (hk3.mono fun _ _ h => h.elim)⟩
set_option maxHeartbeats 8000000 in
set_option maxRecDepth 100000 in
theorem enter_m (n : Nat) (hn : n ≤ 3) (g : Nat) (s : VS) (c v : Nat) (b : Bool) (pc : Nat) (w : World) (hI : St FT w g s) (hs : s.ok) (hc : c < 64) (hv : U v) (hp : U pc) (hm : s.m = (n : Int)) (hd : delegW s c b = false) :
    Calls Try.prog 15 #[.pointer (some ⟨g, 0, none⟩), .agg (trapC c v b), .int .u64 (pc : Int)] w fun e w' => e = .returned (.int .u64 ((targetW (s.r 7) c b : Nat) : Int)) ∧ St FT w' g (entM s c v b pc n) ∧ KpG w w' g := by
  have DL : Aside0 (∀ W, St FT W g s → Calls Try.prog 12 #[.pointer (some ⟨g, 0, none⟩), .agg (trapC c v b)] W fun e w' => e = .returned (.bool false) ∧ KpN W w') := ⟨fun W h => by
    have := deleg_c g s c v b W h hs hc; rw [hd] at this; exact this⟩
  have e1 : bits .andNot .u64 (pc : Int) 3 = ((minus pc 3 : Nat) : Int) := minus_l hp
  have HP := Aside0.mk hp
  clear hd
  go_enter Try.func15, Try.ntmps15
  go_wp2_with (first
    | (((with_reducible refine gate_dst (N := 4) rfl ?_); refine bx_ev rfl rfl (N := 4) rfl (trapC c v b) rfl ?_; intro k hg_k w1 hb_k hk_k; have Hg_k := Aside0.mk hg_k; clear hg_k); have hI1 := hI.kp hk_k (fun h => h); have hT1 := Bk.mk hb_k)
    | ((with_reducible refine gate_dst (N := 8) rfl ?_); refine wpList_load_row rfl 27 _ rfl k rfl _ (trapC c v b) (0, 0) _ (hT1.blk) Try.underlying27 rfl infoT ?_)
    | (go_at_call 12; refine (DL.out _ hI1).mono ?_; rintro e w2 ⟨rfl, hk2⟩))
  have hI2 := hI1.kp hk2 (fun h => h)
  have hT2 := hT1.kp hk2 (fun h => h)
  have hgk : k ≠ g := by have := Hg_k.out; have := hI.lt; omega
  have hkw : w.heap.size ≤ k := by have := Hg_k.out; omega
  have K2 : KpN w w2 := hk_k.trans hk2
  clear hI hI1 hT1 hb_k hk_k hk2 Hg_k
  have t0 := tr_c0 hT2
  have t1 := tr_c1 hT2
  have t2 := tr_c2 hT2
  have f10 := hI2.f 10
  have f11 := hI2.f 11
  have f12 := hI2.f 12
  have c10 := hI2.c 10
  have c11 := hI2.c 11
  have c12 := hI2.c 12
  go_region_held3 (fun W => W.cell? ⟨k, 0, none⟩ = some (.int .i64 (c : Int)) ∧ W.cell? ⟨k, 1, none⟩ = some (.int .u64 (v : Int)) ∧ W.cell? ⟨k, 2, none⟩ = some (.bool b)) (first | exact ⟨t0, t1, t2⟩ | exact ⟨u0, u1, u2⟩ | simp [World.cell?_setCell_far, hgk, hgk.symm, u0, u1, u2]) (first
    | (go_at_call 39; refine (code_c c v b _ hc).mono ?_; rintro e w3 ⟨rfl, hk3⟩; have hI3 := hI2.drew.kp hk3 (fun h => h); have hT3 := hT2.drew.kp hk3 (fun h => h); have u0 := tr_c0 hT3; have u1 := tr_c1 hT3; have u2 := tr_c2 hT3; have F10 := hI3.f 10; have F11 := hI3.f 11; have F12 := hI3.f 12; have C10 := hI3.c 10; have C11 := hI3.c 11; have C12 := hI3.c 12))
  have K34 := (((Kp.refl w3 (fun i => i = g)).setCell (p := ⟨g, 11, none⟩) (.inl rfl) (.int .u64 (codeW c b : Int))).setCell (p := ⟨g, 10, none⟩) (.inl rfl) (.int .u64 (minus pc 3 : Int))).setCell (p := ⟨g, 12, none⟩) (.inl rfl) (.int .u64 (v : Int))
  have hI4 := ((hI3.set 11 (codeW c b)).set 10 (minus pc 3)).set 12 v
  generalize ((w3.setCell ⟨g, 11, none⟩ (.int .u64 (codeW c b : Int))).setCell ⟨g, 10, none⟩ (.int .u64 (minus pc 3 : Int))).setCell ⟨g, 12, none⟩ (.int .u64 (v : Int)) = w4 at hI4 K34 ⊢
  have hT4 := hT3.kp K34 hgk
  have K4 : KpG w w4 g := ((K2.drew.trans hk3).mono (fun _ _ h => h.elim)).trans K34
  have ok4 := ent0_ok hs hc hv HP.out b 11 10 12
  have S1 := setW_ok ok4 (show 7 ≤ 63 by decide) (bitW (s.r 1) 3)
  have S2 := setW_ok S1 (show 3 ≤ 63 by decide) false
  have HM := Aside0.mk hm
  clear t0 t1 t2 f10 f11 f12 c10 c11 c12 u0 u1 u2 F10 F11 F12 C10 C11 C12 hI2 hT2 K2 hk3 hI3 hT3 K34 e1 DL hm
  go_wp2_with (go_at_call 20; refine (is_c g _ 3 _ hI4 ok4).mono ?_; rintro e w5 ⟨rfl, m5, rfl⟩)
  refine (set_l g _ 7 _ _ (hI4.drewN m5) ok4 (by decide)).mono ?_
  rintro e w6 ⟨rfl, hI6, k6⟩
  have hT6 := (hT4.drewN m5).kp k6 hgk
  have K6 := (K4.drewN m5).trans k6
  clear hI4 hT4 K4 k6
  go_wp2_with (fail)
  refine (set_l g _ 3 _ _ hI6 S1 (by decide)).mono ?_
  rintro e w7 ⟨rfl, hI7, k7⟩
  have hT7 := hT6.kp k7 hgk
  have K7 := K6.trans k7
  have c0 : w7.cell? ⟨g, 0, none⟩ = some (.int .i64 (n : Int)) := hI7.c0.trans (by rw [← HM.out]; rfl)
  clear hI6 hT6 K6 k7
  go_wp2_with (fail)
  refine (keep_c g _ n _ hI7 S2 hn).mono ?_
  rintro e w8 ⟨rfl, hI8, k8⟩
  have hT8 := hT7.kp k8 hgk
  have K8 := K7.trans k8
  clear hI7 hT7 K7 k8 c0
  have f0 := hI8.f 0
  have d0 := hI8.c0
  go_wp2_with (fail)
  have hI9 : St FT _ g (entM s c v b pc n) := hI8.set0 3
  have k89 := (Kp.refl w8 (fun i => i = g)).setCell (p := ⟨g, 0, none⟩) (.inl rfl) (.int .i64 3)
  generalize w8.setCell ⟨g, 0, none⟩ (.int .i64 3) = w9 at hI9 k89 ⊢
  have hT9 := hT8.kp k89 hgk
  have K9 := K8.trans k89
  clear hI8 hT8 K8 k89 f0 d0
  have t0 := tr_c0 hT9
  have t1 := tr_c1 hT9
  have t2 := tr_c2 hT9
  have c7 : w9.cell? ⟨g, 7, none⟩ = some (.int .u64 (s.r 7 : Int)) := hI9.c 7
  have U7 := Aside0.mk (hs 7)
  go_region_held3 (fun W => W.cell? ⟨k, 0, none⟩ = some (.int .i64 (c : Int)) ∧ W.cell? ⟨k, 1, none⟩ = some (.int .u64 (v : Int)) ∧ W.cell? ⟨k, 2, none⟩ = some (.bool b) ∧ W.cell? ⟨g, 7, none⟩ = some (.int .u64 (s.r 7 : Int))) (first | exact ⟨t0, t1, t2, c7⟩ | exact ⟨u0, u1, u2, C7⟩) (first
    | (go_at_call 41; refine (target_c (s.r 7) c v b _ U7.out hc).mono ?_; rintro e w3 ⟨rfl, hk3⟩; have hI3 := hI9.drew.kp hk3 (fun h => h); have hT3 := hT9.drew.kp hk3 (fun h => h); have u0 := tr_c0 hT3; have u1 := tr_c1 hT3; have u2 := tr_c2 hT3; have C7 : w3.cell? ⟨g, 7, none⟩ = some (.int .u64 (s.r 7 : Int)) := hI3.c 7))
  go_wp2
  go_ret
  exact ⟨rfl, hI3, K9.drew.trans (hk3.mono fun _ _ h => h.elim)⟩
end Go.Proofs.Ytnknfepbekaobaa.H
/- Package trap, walked by hand: which interrupt is taken. -/
namespace Go.Proofs.Ytnknfepbekaobaa.H
open Go.RowKit Go.Proofs.YtnknfepbekaobaaW.PrintWords Go.Proofs.YtnknfepbekaobaaW.PrintLast Go.Proofs.Ytnknfepbekaobaa.PAl Go.Proofs.Ytnknfepbekaobaa.Pure Go.Proofs.Ytnknfepbekaobaa.Vw
set_option linter.unusedVariables false
set_option linter.unusedSimpArgs false
theorem results_ct {P : Program} {fn : Func} {p0 p1 : Tmp} {T0 : TypeId} (h : fn.results = #[.cell p0 T0, .tmp p1]) (tmps : Array Value) (w : World) (g0 : Nat) (c0 : Array Value) (v : Value) (d0 : TypeDesc)
    (h0 : tmps.getD p0 undef = .pointer (some ⟨g0, 0, none⟩)) (h1 : tmps.getD p1 undef = v)
    (b0 : w.heap[g0]? = some (.cells c0 T0 (0, 0))) (u0 : P.underlying T0 = some d0) (q0 : (match d0 with | .struct _ | .array _ _ => true | _ => false) = true)
    (i0 : (P.info? T0).map (·.size) = some c0.size) :
    (results fn tmps).run P w = .ok (.tuple #[.agg c0, v]) w := by
  have h0' : tmps[p0]?.getD undef = .pointer (some ⟨g0, 0, none⟩) := by simpa using h0
  have h1' : tmps[p1]?.getD undef = v := by simpa using h1
  simp [results, h, h0', h1', asAddr, run_loadVar_row w g0 T0 T0 c0 (0, 0) d0 b0 u0 q0 i0]
theorem zeroT (W : World) : (zeroValue 27).run Try.prog W = .ok (.agg (trapC 0 0 false)) W := by kernel_rfl
theorem trapC_one (c : Int) (v : Nat) (b : Bool) : (trapC c v b).all (·.oneCell') = true := by simp [Value.oneCell']
def setqW (s : VS) : Nat := pendW s &&& s.r 4
theorem setqW_ok {s : VS} (h : s.ok) : U (setqW s) := (pend_ok h).and
def ownN (s : VS) : Int := if s.m < 3 ∨ bitW (s.r 1) 3 = true then firstW (minus (setqW s) (s.r 3)) else -1
def nextN (s : VS) : Int := if ownN s < 0 ∧ (s.m < 1 ∨ (s.m = 1 ∧ bitW (s.r 1) 1 = true)) then firstW (setqW s &&& s.r 3) else ownN s
def nextC (s : VS) : Array Value := if nextN s < 0 then trapC 0 0 false else trapC (nextN s) 0 true
def nextB (s : VS) : Bool := decide (0 ≤ nextN s)
def modeOk (s : VS) : Prop := s.m = 0 ∨ s.m = 1 ∨ s.m = 3
def nextPost (g : Nat) (s : VS) (w : World) (e : Ending) (w' : World) : Prop := e = .returned (.tuple #[.agg (nextC s), .bool (nextB s)]) ∧ KpN w w'
set_option maxHeartbeats 8000000 in
set_option maxRecDepth 100000 in
theorem next_ua (g : Nat) (s : VS) (w : World) (hI : St FT w g s) (hs : s.ok) (hm : s.m = 0) (ho : 0 ≤ firstW (minus (setqW s) (s.r 3))) :
    Calls Try.prog 17 #[.pointer (some ⟨g, 0, none⟩)] w (nextPost g s w) := by
  have q0 : ownN s = firstW (minus (setqW s) (s.r 3)) := by unfold ownN; rw [if_pos (.inl (by rw [hm]; decide))]
  have q : nextN s = firstW (minus (setqW s) (s.r 3)) := by unfold nextN; rw [q0, if_neg (fun h => by omega)]
  have HC : Aside0 (nextC s = trapC (firstW (minus (setqW s) (s.r 3))) 0 true) := ⟨by unfold nextC; rw [q, if_neg (by omega)]⟩
  have HB : Aside0 (nextB s = true) := ⟨by unfold nextB; rw [q]; exact decide_eq_true (by omega)⟩
  have O : Aside0 (∀ W, Calls Try.prog 46 #[.int .u64 ((minus (setqW s) (s.r 3) : Nat) : Int)] W fun e w' => e = .returned (.int .i64 (firstW (minus (setqW s) (s.r 3)))) ∧ ∃ m, w' = W.drewN m) := ⟨fun W => first_c _ W (setqW_ok hs).minus⟩
  have R : Aside0 (∀ W, Calls Try.prog 46 #[.int .u64 ((setqW s &&& s.r 3 : Nat) : Int)] W fun e w' => e = .returned (.int .i64 (firstW (setqW s &&& s.r 3))) ∧ ∃ m, w' = W.drewN m) := ⟨fun W => first_c _ W (setqW_ok hs).and⟩
  have Hm := Aside0.mk hm
  have e1 : bits .and .u64 ((pendW s : Nat) : Int) (s.r 4 : Int) = ((setqW s : Nat) : Int) := and_c (pend_ok hs) (hs 4)
  have e2 : bits .andNot .u64 ((setqW s : Nat) : Int) (s.r 3 : Int) = ((minus (setqW s) (s.r 3) : Nat) : Int) := minus_c (setqW_ok hs) (hs 3)
  have e3 : bits .and .u64 ((setqW s : Nat) : Int) (s.r 3 : Int) = ((setqW s &&& s.r 3 : Nat) : Int) := and_c (setqW_ok hs) (hs 3)
  generalize hv1 : firstW (minus (setqW s) (s.r 3)) = v1 at *
  generalize hv2 : firstW (setqW s &&& s.r 3) = v2 at *
  clear hv1 hv2
  have t1 : decide (v1 < 0) = false := decide_eq_false (by omega)
  clear q q0 hm ho
  have HS := Aside0.mk hs
  clear hs
  go_enter Try.func17, Try.ntmps17
  go_wp2_with (((with_reducible refine gate_dst (N := 2) rfl ?_); refine al_ev rfl rfl (N := 2) rfl _ (zeroT _) ?_; intro q hg_q w1 hb_q hk_q; have Hg_q := Aside0.mk hg_q; clear hg_q); have hI1 := hI.kp hk_q (fun h => h); have d0 := hI1.c0; rw [Hm.out] at d0; have d4 := hI1.c 4; have d3 := hI1.c 3)
  have hhw : w.heap.size ≤ q := by have := Hg_q.out; omega
  have hB1 := Bk.mk hb_q
  clear hI hb_q Hg_q
  go_quiet ((go_at_call 19; exact Calls.quiet_of (pending_c g s _ (hI1.drewN _) HS.out)))
  go_wp2_with (first
    | (go_at_call_of 46 (Value.int IntKind.u64 ((minus (setqW s) (s.r 3) : Nat) : Int)); refine (O.out _).mono ?_; rintro e w' ⟨rfl, mo, rfl⟩)
    | ((with_reducible refine gate_store (t := 27) (p := 2) rfl ?_); refine st_ev rfl rfl rfl q (trapC (v1) 0 true) _ _ rfl rfl ((hB1.drewN _).blk) infoT rfl (trapC_one _ _ _) ?_; intro w2 hs_w2 ks_w2))
  refine bodyPost_ret (results_ct rfl _ _ q (trapC (v1) 0 true) (.bool true) _ rfl rfl hs_w2 Try.underlying27 rfl infoT) rfl ?_
  refine ⟨by rw [HC.out, HB.out], ?_⟩
  exact (hk_q.drewN _).then ks_w2 fun i hi (e : i = q) => by omega
set_option maxHeartbeats 8000000 in
set_option maxRecDepth 100000 in
theorem next_ub (g : Nat) (s : VS) (w : World) (hI : St FT w g s) (hs : s.ok) (hm : s.m = 0) (ho : firstW (minus (setqW s) (s.r 3)) < 0) (hr : 0 ≤ firstW (setqW s &&& s.r 3)) :
    Calls Try.prog 17 #[.pointer (some ⟨g, 0, none⟩)] w (nextPost g s w) := by
  have q0 : ownN s = firstW (minus (setqW s) (s.r 3)) := by unfold ownN; rw [if_pos (.inl (by rw [hm]; decide))]
  have q : nextN s = firstW (setqW s &&& s.r 3) := by unfold nextN; rw [q0, if_pos ⟨by omega, .inl (by rw [hm]; decide)⟩]
  have HC : Aside0 (nextC s = trapC (firstW (setqW s &&& s.r 3)) 0 true) := ⟨by unfold nextC; rw [q, if_neg (by omega)]⟩
  have HB : Aside0 (nextB s = true) := ⟨by unfold nextB; rw [q]; exact decide_eq_true (by omega)⟩
  have O : Aside0 (∀ W, Calls Try.prog 46 #[.int .u64 ((minus (setqW s) (s.r 3) : Nat) : Int)] W fun e w' => e = .returned (.int .i64 (firstW (minus (setqW s) (s.r 3)))) ∧ ∃ m, w' = W.drewN m) := ⟨fun W => first_c _ W (setqW_ok hs).minus⟩
  have R : Aside0 (∀ W, Calls Try.prog 46 #[.int .u64 ((setqW s &&& s.r 3 : Nat) : Int)] W fun e w' => e = .returned (.int .i64 (firstW (setqW s &&& s.r 3))) ∧ ∃ m, w' = W.drewN m) := ⟨fun W => first_c _ W (setqW_ok hs).and⟩
  have Hm := Aside0.mk hm
  have e1 : bits .and .u64 ((pendW s : Nat) : Int) (s.r 4 : Int) = ((setqW s : Nat) : Int) := and_c (pend_ok hs) (hs 4)
  have e2 : bits .andNot .u64 ((setqW s : Nat) : Int) (s.r 3 : Int) = ((minus (setqW s) (s.r 3) : Nat) : Int) := minus_c (setqW_ok hs) (hs 3)
  have e3 : bits .and .u64 ((setqW s : Nat) : Int) (s.r 3 : Int) = ((setqW s &&& s.r 3 : Nat) : Int) := and_c (setqW_ok hs) (hs 3)
  generalize hv1 : firstW (minus (setqW s) (s.r 3)) = v1 at *
  generalize hv2 : firstW (setqW s &&& s.r 3) = v2 at *
  clear hv1 hv2
  have t1 : decide (v1 < 0) = true := decide_eq_true (by omega)
  have t2 : decide (v2 < 0) = false := decide_eq_false (by omega)
  clear q q0 hm ho hr
  have HS := Aside0.mk hs
  clear hs
  go_enter Try.func17, Try.ntmps17
  go_wp2_with (((with_reducible refine gate_dst (N := 2) rfl ?_); refine al_ev rfl rfl (N := 2) rfl _ (zeroT _) ?_; intro q hg_q w1 hb_q hk_q; have Hg_q := Aside0.mk hg_q; clear hg_q); have hI1 := hI.kp hk_q (fun h => h); have d0 := hI1.c0; rw [Hm.out] at d0; have d4 := hI1.c 4; have d3 := hI1.c 3)
  have hhw : w.heap.size ≤ q := by have := Hg_q.out; omega
  have hB1 := Bk.mk hb_q
  clear hI hb_q Hg_q
  go_quiet ((go_at_call 19; exact Calls.quiet_of (pending_c g s _ (hI1.drewN _) HS.out)))
  go_wp2_with (first
    | (go_at_call_of 46 (Value.int IntKind.u64 ((minus (setqW s) (s.r 3) : Nat) : Int)); refine (O.out _).mono ?_; rintro e w' ⟨rfl, mo, rfl⟩)
    | (go_at_call_of 46 (Value.int IntKind.u64 ((setqW s &&& s.r 3 : Nat) : Int)); refine (R.out _).mono ?_; rintro e w' ⟨rfl, mr, rfl⟩)
    | ((with_reducible refine gate_store (t := 27) (p := 2) rfl ?_); refine st_ev rfl rfl rfl q (trapC (v2) 0 true) _ _ rfl rfl ((hB1.drewN _).blk) infoT rfl (trapC_one _ _ _) ?_; intro w2 hs_w2 ks_w2))
  refine bodyPost_ret (results_ct rfl _ _ q (trapC (v2) 0 true) (.bool true) _ rfl rfl hs_w2 Try.underlying27 rfl infoT) rfl ?_
  refine ⟨by rw [HC.out, HB.out], ?_⟩
  exact (hk_q.drewN _).then ks_w2 fun i hi (e : i = q) => by omega
set_option maxHeartbeats 8000000 in
set_option maxRecDepth 100000 in
theorem next_uc (g : Nat) (s : VS) (w : World) (hI : St FT w g s) (hs : s.ok) (hm : s.m = 0) (ho : firstW (minus (setqW s) (s.r 3)) < 0) (hr : firstW (setqW s &&& s.r 3) < 0) :
    Calls Try.prog 17 #[.pointer (some ⟨g, 0, none⟩)] w (nextPost g s w) := by
  have q0 : ownN s = firstW (minus (setqW s) (s.r 3)) := by unfold ownN; rw [if_pos (.inl (by rw [hm]; decide))]
  have q : nextN s = firstW (setqW s &&& s.r 3) := by unfold nextN; rw [q0, if_pos ⟨by omega, .inl (by rw [hm]; decide)⟩]
  have HC : Aside0 (nextC s = trapC 0 0 false) := ⟨by unfold nextC; rw [if_pos (by omega)]⟩
  have HB : Aside0 (nextB s = false) := ⟨by unfold nextB; exact decide_eq_false (by omega)⟩
  have O : Aside0 (∀ W, Calls Try.prog 46 #[.int .u64 ((minus (setqW s) (s.r 3) : Nat) : Int)] W fun e w' => e = .returned (.int .i64 (firstW (minus (setqW s) (s.r 3)))) ∧ ∃ m, w' = W.drewN m) := ⟨fun W => first_c _ W (setqW_ok hs).minus⟩
  have R : Aside0 (∀ W, Calls Try.prog 46 #[.int .u64 ((setqW s &&& s.r 3 : Nat) : Int)] W fun e w' => e = .returned (.int .i64 (firstW (setqW s &&& s.r 3))) ∧ ∃ m, w' = W.drewN m) := ⟨fun W => first_c _ W (setqW_ok hs).and⟩
  have Hm := Aside0.mk hm
  have e1 : bits .and .u64 ((pendW s : Nat) : Int) (s.r 4 : Int) = ((setqW s : Nat) : Int) := and_c (pend_ok hs) (hs 4)
  have e2 : bits .andNot .u64 ((setqW s : Nat) : Int) (s.r 3 : Int) = ((minus (setqW s) (s.r 3) : Nat) : Int) := minus_c (setqW_ok hs) (hs 3)
  have e3 : bits .and .u64 ((setqW s : Nat) : Int) (s.r 3 : Int) = ((setqW s &&& s.r 3 : Nat) : Int) := and_c (setqW_ok hs) (hs 3)
  generalize hv1 : firstW (minus (setqW s) (s.r 3)) = v1 at *
  generalize hv2 : firstW (setqW s &&& s.r 3) = v2 at *
  clear hv1 hv2
  have t1 : decide (v1 < 0) = true := decide_eq_true (by omega)
  have t2 : decide (v2 < 0) = true := decide_eq_true (by omega)
  clear q q0 hm ho hr
  have HS := Aside0.mk hs
  clear hs
  go_enter Try.func17, Try.ntmps17
  go_wp2_with (((with_reducible refine gate_dst (N := 2) rfl ?_); refine al_ev rfl rfl (N := 2) rfl _ (zeroT _) ?_; intro q hg_q w1 hb_q hk_q; have Hg_q := Aside0.mk hg_q; clear hg_q); have hI1 := hI.kp hk_q (fun h => h); have d0 := hI1.c0; rw [Hm.out] at d0; have d4 := hI1.c 4; have d3 := hI1.c 3)
  have hhw : w.heap.size ≤ q := by have := Hg_q.out; omega
  have hB1 := Bk.mk hb_q
  clear hI hb_q Hg_q
  go_quiet ((go_at_call 19; exact Calls.quiet_of (pending_c g s _ (hI1.drewN _) HS.out)))
  go_wp2_with (first
    | (go_at_call_of 46 (Value.int IntKind.u64 ((minus (setqW s) (s.r 3) : Nat) : Int)); refine (O.out _).mono ?_; rintro e w' ⟨rfl, mo, rfl⟩)
    | (go_at_call_of 46 (Value.int IntKind.u64 ((setqW s &&& s.r 3 : Nat) : Int)); refine (R.out _).mono ?_; rintro e w' ⟨rfl, mr, rfl⟩)
    | ((with_reducible refine gate_store (t := 27) (p := 2) rfl ?_); refine st_ev rfl rfl rfl q (trapC 0 0 false) _ _ rfl rfl ((hB1.drewN _).blk) infoT rfl (trapC_one _ _ _) ?_; intro w2 hs_w2 ks_w2))
  refine bodyPost_ret (results_ct rfl _ _ q (trapC 0 0 false) (.bool false) _ rfl rfl hs_w2 Try.underlying27 rfl infoT) rfl ?_
  refine ⟨by rw [HC.out, HB.out], ?_⟩
  exact (hk_q.drewN _).then ks_w2 fun i hi (e : i = q) => by omega
set_option maxHeartbeats 8000000 in
set_option maxRecDepth 100000 in
theorem next_sa (g : Nat) (s : VS) (w : World) (hI : St FT w g s) (hs : s.ok) (hm : s.m = 1) (ho : 0 ≤ firstW (minus (setqW s) (s.r 3))) :
    Calls Try.prog 17 #[.pointer (some ⟨g, 0, none⟩)] w (nextPost g s w) := by
  have q0 : ownN s = firstW (minus (setqW s) (s.r 3)) := by unfold ownN; rw [if_pos (.inl (by rw [hm]; decide))]
  have q : nextN s = firstW (minus (setqW s) (s.r 3)) := by unfold nextN; rw [q0, if_neg (fun h => by omega)]
  have HC : Aside0 (nextC s = trapC (firstW (minus (setqW s) (s.r 3))) 0 true) := ⟨by unfold nextC; rw [q, if_neg (by omega)]⟩
  have HB : Aside0 (nextB s = true) := ⟨by unfold nextB; rw [q]; exact decide_eq_true (by omega)⟩
  have O : Aside0 (∀ W, Calls Try.prog 46 #[.int .u64 ((minus (setqW s) (s.r 3) : Nat) : Int)] W fun e w' => e = .returned (.int .i64 (firstW (minus (setqW s) (s.r 3)))) ∧ ∃ m, w' = W.drewN m) := ⟨fun W => first_c _ W (setqW_ok hs).minus⟩
  have R : Aside0 (∀ W, Calls Try.prog 46 #[.int .u64 ((setqW s &&& s.r 3 : Nat) : Int)] W fun e w' => e = .returned (.int .i64 (firstW (setqW s &&& s.r 3))) ∧ ∃ m, w' = W.drewN m) := ⟨fun W => first_c _ W (setqW_ok hs).and⟩
  have Hm := Aside0.mk hm
  have e1 : bits .and .u64 ((pendW s : Nat) : Int) (s.r 4 : Int) = ((setqW s : Nat) : Int) := and_c (pend_ok hs) (hs 4)
  have e2 : bits .andNot .u64 ((setqW s : Nat) : Int) (s.r 3 : Int) = ((minus (setqW s) (s.r 3) : Nat) : Int) := minus_c (setqW_ok hs) (hs 3)
  have e3 : bits .and .u64 ((setqW s : Nat) : Int) (s.r 3 : Int) = ((setqW s &&& s.r 3 : Nat) : Int) := and_c (setqW_ok hs) (hs 3)
  generalize hv1 : firstW (minus (setqW s) (s.r 3)) = v1 at *
  generalize hv2 : firstW (setqW s &&& s.r 3) = v2 at *
  clear hv1 hv2
  have t1 : decide (v1 < 0) = false := decide_eq_false (by omega)
  clear q q0 hm ho
  have HS := Aside0.mk hs
  clear hs
  go_enter Try.func17, Try.ntmps17
  go_wp2_with (((with_reducible refine gate_dst (N := 2) rfl ?_); refine al_ev rfl rfl (N := 2) rfl _ (zeroT _) ?_; intro q hg_q w1 hb_q hk_q; have Hg_q := Aside0.mk hg_q; clear hg_q); have hI1 := hI.kp hk_q (fun h => h); have d0 := hI1.c0; rw [Hm.out] at d0; have d4 := hI1.c 4; have d3 := hI1.c 3)
  have hhw : w.heap.size ≤ q := by have := Hg_q.out; omega
  have hB1 := Bk.mk hb_q
  clear hI hb_q Hg_q
  go_quiet ((go_at_call 19; exact Calls.quiet_of (pending_c g s _ (hI1.drewN _) HS.out)))
  go_wp2_with (first
    | (go_at_call_of 46 (Value.int IntKind.u64 ((minus (setqW s) (s.r 3) : Nat) : Int)); refine (O.out _).mono ?_; rintro e w' ⟨rfl, mo, rfl⟩)
    | ((with_reducible refine gate_store (t := 27) (p := 2) rfl ?_); refine st_ev rfl rfl rfl q (trapC (v1) 0 true) _ _ rfl rfl ((hB1.drewN _).blk) infoT rfl (trapC_one _ _ _) ?_; intro w2 hs_w2 ks_w2))
  refine bodyPost_ret (results_ct rfl _ _ q (trapC (v1) 0 true) (.bool true) _ rfl rfl hs_w2 Try.underlying27 rfl infoT) rfl ?_
  refine ⟨by rw [HC.out, HB.out], ?_⟩
  exact (hk_q.drewN _).then ks_w2 fun i hi (e : i = q) => by omega
set_option maxHeartbeats 8000000 in
set_option maxRecDepth 100000 in
theorem next_sb (g : Nat) (s : VS) (w : World) (hI : St FT w g s) (hs : s.ok) (hm : s.m = 1) (ho : firstW (minus (setqW s) (s.r 3)) < 0) (b1 : bitW (s.r 1) 1 = false) :
    Calls Try.prog 17 #[.pointer (some ⟨g, 0, none⟩)] w (nextPost g s w) := by
  have q0 : ownN s = firstW (minus (setqW s) (s.r 3)) := by unfold ownN; rw [if_pos (.inl (by rw [hm]; decide))]
  have q : nextN s < 0 := by unfold nextN; rw [q0, if_neg (by rintro ⟨_, h⟩; rw [hm] at h; rw [b1] at h; simp at h)]; omega
  have HC : Aside0 (nextC s = trapC 0 0 false) := ⟨by unfold nextC; rw [if_pos (by omega)]⟩
  have HB : Aside0 (nextB s = false) := ⟨by unfold nextB; exact decide_eq_false (by omega)⟩
  have O : Aside0 (∀ W, Calls Try.prog 46 #[.int .u64 ((minus (setqW s) (s.r 3) : Nat) : Int)] W fun e w' => e = .returned (.int .i64 (firstW (minus (setqW s) (s.r 3)))) ∧ ∃ m, w' = W.drewN m) := ⟨fun W => first_c _ W (setqW_ok hs).minus⟩
  have R : Aside0 (∀ W, Calls Try.prog 46 #[.int .u64 ((setqW s &&& s.r 3 : Nat) : Int)] W fun e w' => e = .returned (.int .i64 (firstW (setqW s &&& s.r 3))) ∧ ∃ m, w' = W.drewN m) := ⟨fun W => first_c _ W (setqW_ok hs).and⟩
  have Hm := Aside0.mk hm
  have e1 : bits .and .u64 ((pendW s : Nat) : Int) (s.r 4 : Int) = ((setqW s : Nat) : Int) := and_c (pend_ok hs) (hs 4)
  have e2 : bits .andNot .u64 ((setqW s : Nat) : Int) (s.r 3 : Int) = ((minus (setqW s) (s.r 3) : Nat) : Int) := minus_c (setqW_ok hs) (hs 3)
  have e3 : bits .and .u64 ((setqW s : Nat) : Int) (s.r 3 : Int) = ((setqW s &&& s.r 3 : Nat) : Int) := and_c (setqW_ok hs) (hs 3)
  have I1 : Aside0 (∀ W, St FT W g s → Calls Try.prog 20 #[.pointer (some ⟨g, 0, none⟩), .int .i64 1] W fun e w' => e = .returned (.bool false) ∧ ∃ m, w' = W.drewN m) := ⟨fun W h => by have := is_c g s 1 W h hs; rw [b1] at this; exact this⟩
  generalize hv1 : firstW (minus (setqW s) (s.r 3)) = v1 at *
  generalize hv2 : firstW (setqW s &&& s.r 3) = v2 at *
  clear hv1 hv2
  have t1 : decide (v1 < 0) = true := decide_eq_true (by omega)
  clear q q0 hm ho b1
  have HS := Aside0.mk hs
  clear hs
  go_enter Try.func17, Try.ntmps17
  go_wp2_with (((with_reducible refine gate_dst (N := 2) rfl ?_); refine al_ev rfl rfl (N := 2) rfl _ (zeroT _) ?_; intro q hg_q w1 hb_q hk_q; have Hg_q := Aside0.mk hg_q; clear hg_q); have hI1 := hI.kp hk_q (fun h => h); have d0 := hI1.c0; rw [Hm.out] at d0; have d4 := hI1.c 4; have d3 := hI1.c 3)
  have hhw : w.heap.size ≤ q := by have := Hg_q.out; omega
  have hB1 := Bk.mk hb_q
  clear hI hb_q Hg_q
  go_quiet ((go_at_call 19; exact Calls.quiet_of (pending_c g s _ (hI1.drewN _) HS.out)))
  go_wp2_with (first
    | (go_at_call_of 20 (Value.int IntKind.i64 1); refine (I1.out _ (hI1.drewN _)).mono ?_; rintro e w' ⟨rfl, m1, rfl⟩)
    | (go_at_call_of 46 (Value.int IntKind.u64 ((minus (setqW s) (s.r 3) : Nat) : Int)); refine (O.out _).mono ?_; rintro e w' ⟨rfl, mo, rfl⟩)
    | ((with_reducible refine gate_store (t := 27) (p := 2) rfl ?_); refine st_ev rfl rfl rfl q (trapC 0 0 false) _ _ rfl rfl ((hB1.drewN _).blk) infoT rfl (trapC_one _ _ _) ?_; intro w2 hs_w2 ks_w2))
  refine bodyPost_ret (results_ct rfl _ _ q (trapC 0 0 false) (.bool false) _ rfl rfl hs_w2 Try.underlying27 rfl infoT) rfl ?_
  refine ⟨by rw [HC.out, HB.out], ?_⟩
  exact (hk_q.drewN _).then ks_w2 fun i hi (e : i = q) => by omega
set_option maxHeartbeats 8000000 in
set_option maxRecDepth 100000 in
theorem next_sc (g : Nat) (s : VS) (w : World) (hI : St FT w g s) (hs : s.ok) (hm : s.m = 1) (ho : firstW (minus (setqW s) (s.r 3)) < 0) (b1 : bitW (s.r 1) 1 = true) (hr : 0 ≤ firstW (setqW s &&& s.r 3)) :
    Calls Try.prog 17 #[.pointer (some ⟨g, 0, none⟩)] w (nextPost g s w) := by
  have q0 : ownN s = firstW (minus (setqW s) (s.r 3)) := by unfold ownN; rw [if_pos (.inl (by rw [hm]; decide))]
  have q : nextN s = firstW (setqW s &&& s.r 3) := by unfold nextN; rw [q0, if_pos ⟨by omega, .inr ⟨hm, b1⟩⟩]
  have HC : Aside0 (nextC s = trapC (firstW (setqW s &&& s.r 3)) 0 true) := ⟨by unfold nextC; rw [q, if_neg (by omega)]⟩
  have HB : Aside0 (nextB s = true) := ⟨by unfold nextB; rw [q]; exact decide_eq_true (by omega)⟩
  have O : Aside0 (∀ W, Calls Try.prog 46 #[.int .u64 ((minus (setqW s) (s.r 3) : Nat) : Int)] W fun e w' => e = .returned (.int .i64 (firstW (minus (setqW s) (s.r 3)))) ∧ ∃ m, w' = W.drewN m) := ⟨fun W => first_c _ W (setqW_ok hs).minus⟩
  have R : Aside0 (∀ W, Calls Try.prog 46 #[.int .u64 ((setqW s &&& s.r 3 : Nat) : Int)] W fun e w' => e = .returned (.int .i64 (firstW (setqW s &&& s.r 3))) ∧ ∃ m, w' = W.drewN m) := ⟨fun W => first_c _ W (setqW_ok hs).and⟩
  have Hm := Aside0.mk hm
  have e1 : bits .and .u64 ((pendW s : Nat) : Int) (s.r 4 : Int) = ((setqW s : Nat) : Int) := and_c (pend_ok hs) (hs 4)
  have e2 : bits .andNot .u64 ((setqW s : Nat) : Int) (s.r 3 : Int) = ((minus (setqW s) (s.r 3) : Nat) : Int) := minus_c (setqW_ok hs) (hs 3)
  have e3 : bits .and .u64 ((setqW s : Nat) : Int) (s.r 3 : Int) = ((setqW s &&& s.r 3 : Nat) : Int) := and_c (setqW_ok hs) (hs 3)
  have I1 : Aside0 (∀ W, St FT W g s → Calls Try.prog 20 #[.pointer (some ⟨g, 0, none⟩), .int .i64 1] W fun e w' => e = .returned (.bool true) ∧ ∃ m, w' = W.drewN m) := ⟨fun W h => by have := is_c g s 1 W h hs; rw [b1] at this; exact this⟩
  generalize hv1 : firstW (minus (setqW s) (s.r 3)) = v1 at *
  generalize hv2 : firstW (setqW s &&& s.r 3) = v2 at *
  clear hv1 hv2
  have t1 : decide (v1 < 0) = true := decide_eq_true (by omega)
  have t2 : decide (v2 < 0) = false := decide_eq_false (by omega)
  clear q q0 hm ho b1 hr
  have HS := Aside0.mk hs
  clear hs
  go_enter Try.func17, Try.ntmps17
  go_wp2_with (((with_reducible refine gate_dst (N := 2) rfl ?_); refine al_ev rfl rfl (N := 2) rfl _ (zeroT _) ?_; intro q hg_q w1 hb_q hk_q; have Hg_q := Aside0.mk hg_q; clear hg_q); have hI1 := hI.kp hk_q (fun h => h); have d0 := hI1.c0; rw [Hm.out] at d0; have d4 := hI1.c 4; have d3 := hI1.c 3)
  have hhw : w.heap.size ≤ q := by have := Hg_q.out; omega
  have hB1 := Bk.mk hb_q
  clear hI hb_q Hg_q
  go_quiet ((go_at_call 19; exact Calls.quiet_of (pending_c g s _ (hI1.drewN _) HS.out)))
  go_wp2_with (first
    | (go_at_call_of 20 (Value.int IntKind.i64 1); refine (I1.out _ (hI1.drewN _)).mono ?_; rintro e w' ⟨rfl, m1, rfl⟩)
    | (go_at_call_of 46 (Value.int IntKind.u64 ((minus (setqW s) (s.r 3) : Nat) : Int)); refine (O.out _).mono ?_; rintro e w' ⟨rfl, mo, rfl⟩)
    | (go_at_call_of 46 (Value.int IntKind.u64 ((setqW s &&& s.r 3 : Nat) : Int)); refine (R.out _).mono ?_; rintro e w' ⟨rfl, mr, rfl⟩)
    | ((with_reducible refine gate_store (t := 27) (p := 2) rfl ?_); refine st_ev rfl rfl rfl q (trapC (v2) 0 true) _ _ rfl rfl ((hB1.drewN _).blk) infoT rfl (trapC_one _ _ _) ?_; intro w2 hs_w2 ks_w2))
  refine bodyPost_ret (results_ct rfl _ _ q (trapC (v2) 0 true) (.bool true) _ rfl rfl hs_w2 Try.underlying27 rfl infoT) rfl ?_
  refine ⟨by rw [HC.out, HB.out], ?_⟩
  exact (hk_q.drewN _).then ks_w2 fun i hi (e : i = q) => by omega
set_option maxHeartbeats 8000000 in
set_option maxRecDepth 100000 in
theorem next_sd (g : Nat) (s : VS) (w : World) (hI : St FT w g s) (hs : s.ok) (hm : s.m = 1) (ho : firstW (minus (setqW s) (s.r 3)) < 0) (b1 : bitW (s.r 1) 1 = true) (hr : firstW (setqW s &&& s.r 3) < 0) :
    Calls Try.prog 17 #[.pointer (some ⟨g, 0, none⟩)] w (nextPost g s w) := by
  have q0 : ownN s = firstW (minus (setqW s) (s.r 3)) := by unfold ownN; rw [if_pos (.inl (by rw [hm]; decide))]
  have q : nextN s = firstW (setqW s &&& s.r 3) := by unfold nextN; rw [q0, if_pos ⟨by omega, .inr ⟨hm, b1⟩⟩]
  have HC : Aside0 (nextC s = trapC 0 0 false) := ⟨by unfold nextC; rw [if_pos (by omega)]⟩
  have HB : Aside0 (nextB s = false) := ⟨by unfold nextB; exact decide_eq_false (by omega)⟩
  have O : Aside0 (∀ W, Calls Try.prog 46 #[.int .u64 ((minus (setqW s) (s.r 3) : Nat) : Int)] W fun e w' => e = .returned (.int .i64 (firstW (minus (setqW s) (s.r 3)))) ∧ ∃ m, w' = W.drewN m) := ⟨fun W => first_c _ W (setqW_ok hs).minus⟩
  have R : Aside0 (∀ W, Calls Try.prog 46 #[.int .u64 ((setqW s &&& s.r 3 : Nat) : Int)] W fun e w' => e = .returned (.int .i64 (firstW (setqW s &&& s.r 3))) ∧ ∃ m, w' = W.drewN m) := ⟨fun W => first_c _ W (setqW_ok hs).and⟩
  have Hm := Aside0.mk hm
  have e1 : bits .and .u64 ((pendW s : Nat) : Int) (s.r 4 : Int) = ((setqW s : Nat) : Int) := and_c (pend_ok hs) (hs 4)
  have e2 : bits .andNot .u64 ((setqW s : Nat) : Int) (s.r 3 : Int) = ((minus (setqW s) (s.r 3) : Nat) : Int) := minus_c (setqW_ok hs) (hs 3)
  have e3 : bits .and .u64 ((setqW s : Nat) : Int) (s.r 3 : Int) = ((setqW s &&& s.r 3 : Nat) : Int) := and_c (setqW_ok hs) (hs 3)
  have I1 : Aside0 (∀ W, St FT W g s → Calls Try.prog 20 #[.pointer (some ⟨g, 0, none⟩), .int .i64 1] W fun e w' => e = .returned (.bool true) ∧ ∃ m, w' = W.drewN m) := ⟨fun W h => by have := is_c g s 1 W h hs; rw [b1] at this; exact this⟩
  generalize hv1 : firstW (minus (setqW s) (s.r 3)) = v1 at *
  generalize hv2 : firstW (setqW s &&& s.r 3) = v2 at *
  clear hv1 hv2
  have t1 : decide (v1 < 0) = true := decide_eq_true (by omega)
  have t2 : decide (v2 < 0) = true := decide_eq_true (by omega)
  clear q q0 hm ho b1 hr
  have HS := Aside0.mk hs
  clear hs
  go_enter Try.func17, Try.ntmps17
  go_wp2_with (((with_reducible refine gate_dst (N := 2) rfl ?_); refine al_ev rfl rfl (N := 2) rfl _ (zeroT _) ?_; intro q hg_q w1 hb_q hk_q; have Hg_q := Aside0.mk hg_q; clear hg_q); have hI1 := hI.kp hk_q (fun h => h); have d0 := hI1.c0; rw [Hm.out] at d0; have d4 := hI1.c 4; have d3 := hI1.c 3)
  have hhw : w.heap.size ≤ q := by have := Hg_q.out; omega
  have hB1 := Bk.mk hb_q
  clear hI hb_q Hg_q
  go_quiet ((go_at_call 19; exact Calls.quiet_of (pending_c g s _ (hI1.drewN _) HS.out)))
  go_wp2_with (first
    | (go_at_call_of 20 (Value.int IntKind.i64 1); refine (I1.out _ (hI1.drewN _)).mono ?_; rintro e w' ⟨rfl, m1, rfl⟩)
    | (go_at_call_of 46 (Value.int IntKind.u64 ((minus (setqW s) (s.r 3) : Nat) : Int)); refine (O.out _).mono ?_; rintro e w' ⟨rfl, mo, rfl⟩)
    | (go_at_call_of 46 (Value.int IntKind.u64 ((setqW s &&& s.r 3 : Nat) : Int)); refine (R.out _).mono ?_; rintro e w' ⟨rfl, mr, rfl⟩)
    | ((with_reducible refine gate_store (t := 27) (p := 2) rfl ?_); refine st_ev rfl rfl rfl q (trapC 0 0 false) _ _ rfl rfl ((hB1.drewN _).blk) infoT rfl (trapC_one _ _ _) ?_; intro w2 hs_w2 ks_w2))
  refine bodyPost_ret (results_ct rfl _ _ q (trapC 0 0 false) (.bool false) _ rfl rfl hs_w2 Try.underlying27 rfl infoT) rfl ?_
  refine ⟨by rw [HC.out, HB.out], ?_⟩
  exact (hk_q.drewN _).then ks_w2 fun i hi (e : i = q) => by omega
set_option maxHeartbeats 8000000 in
set_option maxRecDepth 100000 in
theorem next_ma (g : Nat) (s : VS) (w : World) (hI : St FT w g s) (hs : s.ok) (hm : s.m = 3) (b3 : bitW (s.r 1) 3 = false) :
    Calls Try.prog 17 #[.pointer (some ⟨g, 0, none⟩)] w (nextPost g s w) := by
  have q0 : ownN s = -1 := by unfold ownN; rw [if_neg (by rw [hm, b3]; decide)]
  have q : nextN s < 0 := by unfold nextN; rw [q0, if_neg (by rintro ⟨_, h⟩; rw [hm] at h; simp at h)]; omega
  have HC : Aside0 (nextC s = trapC 0 0 false) := ⟨by unfold nextC; rw [if_pos (by omega)]⟩
  have HB : Aside0 (nextB s = false) := ⟨by unfold nextB; exact decide_eq_false (by omega)⟩
  have O : Aside0 (∀ W, Calls Try.prog 46 #[.int .u64 ((minus (setqW s) (s.r 3) : Nat) : Int)] W fun e w' => e = .returned (.int .i64 (firstW (minus (setqW s) (s.r 3)))) ∧ ∃ m, w' = W.drewN m) := ⟨fun W => first_c _ W (setqW_ok hs).minus⟩
  have R : Aside0 (∀ W, Calls Try.prog 46 #[.int .u64 ((setqW s &&& s.r 3 : Nat) : Int)] W fun e w' => e = .returned (.int .i64 (firstW (setqW s &&& s.r 3))) ∧ ∃ m, w' = W.drewN m) := ⟨fun W => first_c _ W (setqW_ok hs).and⟩
  have Hm := Aside0.mk hm
  have e1 : bits .and .u64 ((pendW s : Nat) : Int) (s.r 4 : Int) = ((setqW s : Nat) : Int) := and_c (pend_ok hs) (hs 4)
  have e2 : bits .andNot .u64 ((setqW s : Nat) : Int) (s.r 3 : Int) = ((minus (setqW s) (s.r 3) : Nat) : Int) := minus_c (setqW_ok hs) (hs 3)
  have e3 : bits .and .u64 ((setqW s : Nat) : Int) (s.r 3 : Int) = ((setqW s &&& s.r 3 : Nat) : Int) := and_c (setqW_ok hs) (hs 3)
  have I3 : Aside0 (∀ W, St FT W g s → Calls Try.prog 20 #[.pointer (some ⟨g, 0, none⟩), .int .i64 3] W fun e w' => e = .returned (.bool false) ∧ ∃ m, w' = W.drewN m) := ⟨fun W h => by have := is_c g s 3 W h hs; rw [b3] at this; exact this⟩
  generalize hv1 : firstW (minus (setqW s) (s.r 3)) = v1 at *
  generalize hv2 : firstW (setqW s &&& s.r 3) = v2 at *
  clear hv1 hv2
  clear q q0 hm b3
  have HS := Aside0.mk hs
  clear hs
  go_enter Try.func17, Try.ntmps17
  go_wp2_with (((with_reducible refine gate_dst (N := 2) rfl ?_); refine al_ev rfl rfl (N := 2) rfl _ (zeroT _) ?_; intro q hg_q w1 hb_q hk_q; have Hg_q := Aside0.mk hg_q; clear hg_q); have hI1 := hI.kp hk_q (fun h => h); have d0 := hI1.c0; rw [Hm.out] at d0; have d4 := hI1.c 4; have d3 := hI1.c 3)
  have hhw : w.heap.size ≤ q := by have := Hg_q.out; omega
  have hB1 := Bk.mk hb_q
  clear hI hb_q Hg_q
  go_quiet ((go_at_call 19; exact Calls.quiet_of (pending_c g s _ (hI1.drewN _) HS.out)))
  go_wp2_with (first
    | (go_at_call_of 20 (Value.int IntKind.i64 3); refine (I3.out _ (hI1.drewN _)).mono ?_; rintro e w' ⟨rfl, m3, rfl⟩)
    | ((with_reducible refine gate_store (t := 27) (p := 2) rfl ?_); refine st_ev rfl rfl rfl q (trapC 0 0 false) _ _ rfl rfl ((hB1.drewN _).blk) infoT rfl (trapC_one _ _ _) ?_; intro w2 hs_w2 ks_w2))
  refine bodyPost_ret (results_ct rfl _ _ q (trapC 0 0 false) (.bool false) _ rfl rfl hs_w2 Try.underlying27 rfl infoT) rfl ?_
  refine ⟨by rw [HC.out, HB.out], ?_⟩
  exact (hk_q.drewN _).then ks_w2 fun i hi (e : i = q) => by omega
set_option maxHeartbeats 8000000 in
set_option maxRecDepth 100000 in
theorem next_mb (g : Nat) (s : VS) (w : World) (hI : St FT w g s) (hs : s.ok) (hm : s.m = 3) (b3 : bitW (s.r 1) 3 = true) (ho : 0 ≤ firstW (minus (setqW s) (s.r 3))) :
    Calls Try.prog 17 #[.pointer (some ⟨g, 0, none⟩)] w (nextPost g s w) := by
  have q0 : ownN s = firstW (minus (setqW s) (s.r 3)) := by unfold ownN; rw [if_pos (.inr b3)]
  have q : nextN s = firstW (minus (setqW s) (s.r 3)) := by unfold nextN; rw [q0, if_neg (fun h => by omega)]
  have HC : Aside0 (nextC s = trapC (firstW (minus (setqW s) (s.r 3))) 0 true) := ⟨by unfold nextC; rw [q, if_neg (by omega)]⟩
  have HB : Aside0 (nextB s = true) := ⟨by unfold nextB; rw [q]; exact decide_eq_true (by omega)⟩
  have O : Aside0 (∀ W, Calls Try.prog 46 #[.int .u64 ((minus (setqW s) (s.r 3) : Nat) : Int)] W fun e w' => e = .returned (.int .i64 (firstW (minus (setqW s) (s.r 3)))) ∧ ∃ m, w' = W.drewN m) := ⟨fun W => first_c _ W (setqW_ok hs).minus⟩
  have R : Aside0 (∀ W, Calls Try.prog 46 #[.int .u64 ((setqW s &&& s.r 3 : Nat) : Int)] W fun e w' => e = .returned (.int .i64 (firstW (setqW s &&& s.r 3))) ∧ ∃ m, w' = W.drewN m) := ⟨fun W => first_c _ W (setqW_ok hs).and⟩
  have Hm := Aside0.mk hm
  have e1 : bits .and .u64 ((pendW s : Nat) : Int) (s.r 4 : Int) = ((setqW s : Nat) : Int) := and_c (pend_ok hs) (hs 4)
  have e2 : bits .andNot .u64 ((setqW s : Nat) : Int) (s.r 3 : Int) = ((minus (setqW s) (s.r 3) : Nat) : Int) := minus_c (setqW_ok hs) (hs 3)
  have e3 : bits .and .u64 ((setqW s : Nat) : Int) (s.r 3 : Int) = ((setqW s &&& s.r 3 : Nat) : Int) := and_c (setqW_ok hs) (hs 3)
  have I3 : Aside0 (∀ W, St FT W g s → Calls Try.prog 20 #[.pointer (some ⟨g, 0, none⟩), .int .i64 3] W fun e w' => e = .returned (.bool true) ∧ ∃ m, w' = W.drewN m) := ⟨fun W h => by have := is_c g s 3 W h hs; rw [b3] at this; exact this⟩
  generalize hv1 : firstW (minus (setqW s) (s.r 3)) = v1 at *
  generalize hv2 : firstW (setqW s &&& s.r 3) = v2 at *
  clear hv1 hv2
  have t1 : decide (v1 < 0) = false := decide_eq_false (by omega)
  clear q q0 hm b3 ho
  have HS := Aside0.mk hs
  clear hs
  go_enter Try.func17, Try.ntmps17
  go_wp2_with (((with_reducible refine gate_dst (N := 2) rfl ?_); refine al_ev rfl rfl (N := 2) rfl _ (zeroT _) ?_; intro q hg_q w1 hb_q hk_q; have Hg_q := Aside0.mk hg_q; clear hg_q); have hI1 := hI.kp hk_q (fun h => h); have d0 := hI1.c0; rw [Hm.out] at d0; have d4 := hI1.c 4; have d3 := hI1.c 3)
  have hhw : w.heap.size ≤ q := by have := Hg_q.out; omega
  have hB1 := Bk.mk hb_q
  clear hI hb_q Hg_q
  go_quiet ((go_at_call 19; exact Calls.quiet_of (pending_c g s _ (hI1.drewN _) HS.out)))
  go_wp2_with (first
    | (go_at_call_of 20 (Value.int IntKind.i64 3); refine (I3.out _ (hI1.drewN _)).mono ?_; rintro e w' ⟨rfl, m3, rfl⟩)
    | (go_at_call_of 46 (Value.int IntKind.u64 ((minus (setqW s) (s.r 3) : Nat) : Int)); refine (O.out _).mono ?_; rintro e w' ⟨rfl, mo, rfl⟩)
    | ((with_reducible refine gate_store (t := 27) (p := 2) rfl ?_); refine st_ev rfl rfl rfl q (trapC (v1) 0 true) _ _ rfl rfl ((hB1.drewN _).blk) infoT rfl (trapC_one _ _ _) ?_; intro w2 hs_w2 ks_w2))
  refine bodyPost_ret (results_ct rfl _ _ q (trapC (v1) 0 true) (.bool true) _ rfl rfl hs_w2 Try.underlying27 rfl infoT) rfl ?_
  refine ⟨by rw [HC.out, HB.out], ?_⟩
  exact (hk_q.drewN _).then ks_w2 fun i hi (e : i = q) => by omega
set_option maxHeartbeats 8000000 in
set_option maxRecDepth 100000 in
theorem next_mc (g : Nat) (s : VS) (w : World) (hI : St FT w g s) (hs : s.ok) (hm : s.m = 3) (b3 : bitW (s.r 1) 3 = true) (ho : firstW (minus (setqW s) (s.r 3)) < 0) :
    Calls Try.prog 17 #[.pointer (some ⟨g, 0, none⟩)] w (nextPost g s w) := by
  have q0 : ownN s = firstW (minus (setqW s) (s.r 3)) := by unfold ownN; rw [if_pos (.inr b3)]
  have q : nextN s < 0 := by unfold nextN; rw [q0, if_neg (by rintro ⟨_, h⟩; rw [hm] at h; simp at h)]; omega
  have HC : Aside0 (nextC s = trapC 0 0 false) := ⟨by unfold nextC; rw [if_pos (by omega)]⟩
  have HB : Aside0 (nextB s = false) := ⟨by unfold nextB; exact decide_eq_false (by omega)⟩
  have O : Aside0 (∀ W, Calls Try.prog 46 #[.int .u64 ((minus (setqW s) (s.r 3) : Nat) : Int)] W fun e w' => e = .returned (.int .i64 (firstW (minus (setqW s) (s.r 3)))) ∧ ∃ m, w' = W.drewN m) := ⟨fun W => first_c _ W (setqW_ok hs).minus⟩
  have R : Aside0 (∀ W, Calls Try.prog 46 #[.int .u64 ((setqW s &&& s.r 3 : Nat) : Int)] W fun e w' => e = .returned (.int .i64 (firstW (setqW s &&& s.r 3))) ∧ ∃ m, w' = W.drewN m) := ⟨fun W => first_c _ W (setqW_ok hs).and⟩
  have Hm := Aside0.mk hm
  have e1 : bits .and .u64 ((pendW s : Nat) : Int) (s.r 4 : Int) = ((setqW s : Nat) : Int) := and_c (pend_ok hs) (hs 4)
  have e2 : bits .andNot .u64 ((setqW s : Nat) : Int) (s.r 3 : Int) = ((minus (setqW s) (s.r 3) : Nat) : Int) := minus_c (setqW_ok hs) (hs 3)
  have e3 : bits .and .u64 ((setqW s : Nat) : Int) (s.r 3 : Int) = ((setqW s &&& s.r 3 : Nat) : Int) := and_c (setqW_ok hs) (hs 3)
  have I3 : Aside0 (∀ W, St FT W g s → Calls Try.prog 20 #[.pointer (some ⟨g, 0, none⟩), .int .i64 3] W fun e w' => e = .returned (.bool true) ∧ ∃ m, w' = W.drewN m) := ⟨fun W h => by have := is_c g s 3 W h hs; rw [b3] at this; exact this⟩
  generalize hv1 : firstW (minus (setqW s) (s.r 3)) = v1 at *
  generalize hv2 : firstW (setqW s &&& s.r 3) = v2 at *
  clear hv1 hv2
  have t1 : decide (v1 < 0) = true := decide_eq_true (by omega)
  clear q q0 hm b3 ho
  have HS := Aside0.mk hs
  clear hs
  go_enter Try.func17, Try.ntmps17
  go_wp2_with (((with_reducible refine gate_dst (N := 2) rfl ?_); refine al_ev rfl rfl (N := 2) rfl _ (zeroT _) ?_; intro q hg_q w1 hb_q hk_q; have Hg_q := Aside0.mk hg_q; clear hg_q); have hI1 := hI.kp hk_q (fun h => h); have d0 := hI1.c0; rw [Hm.out] at d0; have d4 := hI1.c 4; have d3 := hI1.c 3)
  have hhw : w.heap.size ≤ q := by have := Hg_q.out; omega
  have hB1 := Bk.mk hb_q
  clear hI hb_q Hg_q
  go_quiet ((go_at_call 19; exact Calls.quiet_of (pending_c g s _ (hI1.drewN _) HS.out)))
  go_wp2_with (first
    | (go_at_call_of 20 (Value.int IntKind.i64 3); refine (I3.out _ (hI1.drewN _)).mono ?_; rintro e w' ⟨rfl, m3, rfl⟩)
    | (go_at_call_of 46 (Value.int IntKind.u64 ((minus (setqW s) (s.r 3) : Nat) : Int)); refine (O.out _).mono ?_; rintro e w' ⟨rfl, mo, rfl⟩)
    | ((with_reducible refine gate_store (t := 27) (p := 2) rfl ?_); refine st_ev rfl rfl rfl q (trapC 0 0 false) _ _ rfl rfl ((hB1.drewN _).blk) infoT rfl (trapC_one _ _ _) ?_; intro w2 hs_w2 ks_w2))
  refine bodyPost_ret (results_ct rfl _ _ q (trapC 0 0 false) (.bool false) _ rfl rfl hs_w2 Try.underlying27 rfl infoT) rfl ?_
  refine ⟨by rw [HC.out, HB.out], ?_⟩
  exact (hk_q.drewN _).then ks_w2 fun i hi (e : i = q) => by omega
theorem next_c (g : Nat) (s : VS) (w : World) (hI : St FT w g s) (hs : s.ok) (hm : modeOk s) :
    Calls Try.prog 17 #[.pointer (some ⟨g, 0, none⟩)] w fun e w' => e = .returned (.tuple #[.agg (nextC s), .bool (nextB s)]) ∧ KpN w w' := by
  have h : Calls Try.prog 17 #[.pointer (some ⟨g, 0, none⟩)] w (nextPost g s w) := by
    have o : 0 ≤ firstW (minus (setqW s) (s.r 3)) ∨ firstW (minus (setqW s) (s.r 3)) < 0 := by omega
    have r : 0 ≤ firstW (setqW s &&& s.r 3) ∨ firstW (setqW s &&& s.r 3) < 0 := by omega
    rcases hm with hm | hm | hm
    · rcases o with o | o
      · exact next_ua g s w hI hs hm o
      rcases r with r | r
      · exact next_ub g s w hI hs hm o r
      · exact next_uc g s w hI hs hm o r
    · rcases o with o | o
      · exact next_sa g s w hI hs hm o
      cases hb : bitW (s.r 1) 1
      · exact next_sb g s w hI hs hm o hb
      rcases r with r | r
      · exact next_sc g s w hI hs hm o hb r
      · exact next_sd g s w hI hs hm o hb r
    · cases hb : bitW (s.r 1) 3
      · exact next_ma g s w hI hs hm hb
      rcases o with o | o
      · exact next_mb g s w hI hs hm hb o
      · exact next_mc g s w hI hs hm hb o
  exact h
end Go.Proofs.Ytnknfepbekaobaa.H
/- Package trap, walked by hand: the ways back. -/
namespace Go.Proofs.Ytnknfepbekaobaa.H
open Go.RowKit Go.Proofs.YtnknfepbekaobaaW.PrintWords Go.Proofs.YtnknfepbekaobaaW.PrintLast Go.Proofs.Ytnknfepbekaobaa.PAl Go.Proofs.Ytnknfepbekaobaa.Pure Go.Proofs.Ytnknfepbekaobaa.Vw
set_option linter.unusedVariables false
set_option linter.unusedSimpArgs false
def mppW (s : VS) : Nat := getW (s.r 1) 11 2
theorem mppW_lt (s : VS) : mppW s < 4 := by unfold mppW getW; rw [if_pos (by decide)]; exact Nat.mod_lt _ (by decide)
def mretS (s : VS) : VS :=
  if mppW s = 3 then keepW (setW (setW (s.mode 3) 3 (bitW (s.r 1) 7)) 7 true) 0
  else setW (keepW (setW (setW (s.mode (mppW s)) 3 (bitW (s.r 1) 7)) 7 true) 0) 17 false
def sretS (s : VS) : VS := setW (setW (setW (setW (s.mode (if bitW (s.r 1) 8 = true then 1 else 0)) 1 (bitW (s.r 1) 5)) 5 true) 8 false) 17 false
theorem keepW_ok {s : VS} (h : s.ok) (k : Nat) : (keepW s k).ok := VS.set_ok h _ ((h 1).put _ _ _)
theorem keep_l (g : Nat) (s : VS) (k : Nat) (w : World) (hI : St FT w g s) (hs : s.ok) (hk : k ≤ 3) :
    Calls Try.prog 42 #[.pointer (some ⟨g, 0, none⟩), .int .i64 (@OfNat.ofNat Int k instOfNat)] w fun e w' => e = .returned (.tuple #[]) ∧ St FT w' g (keepW s k) ∧ KpG w w' g := keep_c g s k w hI hs hk
set_option maxHeartbeats 8000000 in
set_option maxRecDepth 100000 in
theorem mret_no (g : Nat) (s : VS) (w : World) (hI : St FT w g s) (hm : s.m ≠ 3) :
    Calls Try.prog 23 #[.pointer (some ⟨g, 0, none⟩)] w fun e w' => e = .returned (.tuple #[.int .u64 0, .bool false]) ∧ w = w' := by
  have c0 := hI.c0
  have t0 : (s.m != 3) = true := bne_iff_ne.2 hm
  go_enter Try.func23, Try.ntmps23
  go_wp2
  go_ret2
  exact ⟨rfl, rfl⟩
set_option maxHeartbeats 8000000 in
set_option maxRecDepth 100000 in
theorem mret_go (g : Nat) (s : VS) (w : World) (hI : St FT w g s) (hs : s.ok) (hm : s.m = 3) (n : Nat) (hn : mppW s = n) (T : VS) (r : Nat) (hr : r = s.r 10)
    (hT : (n = 3 ∧ T = keepW (setW (setW (s.mode n) 3 (bitW (s.r 1) 7)) 7 true) 0) ∨ (n ≠ 3 ∧ T = setW (keepW (setW (setW (s.mode n) 3 (bitW (s.r 1) 7)) 7 true) 0) 17 false)) :
    Calls Try.prog 23 #[.pointer (some ⟨g, 0, none⟩)] w fun e w' => e = .returned (.tuple #[.int .u64 (r : Int), .bool true]) ∧ St FT w' g T ∧ KpG w w' g := by
  have c0 := hI.c0
  have f0 := hI.f 0
  rw [hm] at c0
  have P : Aside0 (Calls Try.prog 49 #[.pointer (some ⟨g, 0, none⟩)] w fun e w' => e = .returned (.int .i64 (n : Int)) ∧ ∃ m, w' = w.drewN m) := ⟨by
    have := previous_c g s w hI hs; rw [show getW (s.r 1) 11 2 = n from hn] at this; exact this⟩
  have S1 : (s.mode n).ok := hs
  have S2 := setW_ok S1 (show 3 ≤ 63 by decide) (bitW (s.r 1) 7)
  have S3 := setW_ok S2 (show 7 ≤ 63 by decide) true
  have S4 := keepW_ok S3 0
  have HT := Aside0.mk hT
  have HR := Aside0.mk hr
  clear hm hn hT hr
  go_enter Try.func23, Try.ntmps23
  go_wp2_with (go_at_call 49; refine P.out.mono ?_; rintro e w' ⟨rfl, m, rfl⟩)
  have hI1 : St FT _ g (s.mode n) := (hI.drewN m).set0 n
  have K1 := ((Kp.refl w (fun i => i = g)).drewN m).setCell (p := ⟨g, 0, none⟩) (.inl rfl) (.int .i64 (n : Int))
  refine (is_c g _ 7 _ hI1 S1).mono ?_
  rintro e w5 ⟨rfl, m5, rfl⟩
  clear c0 f0
  go_wp2_with (fail)
  refine (set_l g _ 3 _ _ (hI1.drewN m5) S1 (by decide)).mono ?_
  rintro e w6 ⟨rfl, hI6, k6⟩
  have K6 := (K1.drewN m5).trans k6
  clear hI1 K1 k6
  go_wp2_with (fail)
  refine (set_l g _ 7 _ _ hI6 S2 (by decide)).mono ?_
  rintro e w7 ⟨rfl, hI7, k7⟩
  have K7 := K6.trans k7
  clear hI6 K6 k7
  go_wp2_with (fail)
  refine (keep_l g _ 0 _ hI7 S3 (by decide)).mono ?_
  rintro e w8 ⟨rfl, hI8, k8⟩
  have K8 := K7.trans k8
  clear hI7 K7 k8
  have c0 : w8.cell? ⟨g, 0, none⟩ = some (.int .i64 (n : Int)) := hI8.c0
  have c10 : w8.cell? ⟨g, 10, none⟩ = some (.int .u64 (r : Int)) := by rw [HR.out]; exact hI8.c 10
  rcases HT.out with ⟨hn3, hT⟩ | ⟨hn3, hT⟩
  · have t1 : ((n : Int) != 3) = false := by rw [hn3]; rfl
    have HQ := Aside0.mk hT
    clear hT HT hn3
    go_wp2
    go_ret2
    exact ⟨rfl, by rw [HQ.out]; exact hI8, K8⟩
  · have t1 : ((n : Int) != 3) = true := bne_iff_ne.2 (by omega)
    have HQ := Aside0.mk hT
    clear hT HT hn3
    go_wp2_with (fail)
    refine (set_l g _ 17 _ _ hI8 S4 (by decide)).mono ?_
    rintro e w9 ⟨rfl, hI9, k9⟩
    have d10 : w9.cell? ⟨g, 10, none⟩ = some (.int .u64 (r : Int)) := by rw [HR.out]; exact hI9.c 10
    have K9 := K8.trans k9
    clear hI8 K8 k9
    go_wp2
    go_ret2
    exact ⟨rfl, by rw [HQ.out]; exact hI9, K9⟩
theorem mret_c (g : Nat) (s : VS) (w : World) (hI : St FT w g s) (hs : s.ok) :
    Calls Try.prog 23 #[.pointer (some ⟨g, 0, none⟩)] w fun e w' => e = .returned (.tuple #[.int .u64 ((if s.m = 3 then s.r 10 else 0 : Nat) : Int), .bool (decide (s.m = 3))]) ∧ St FT w' g (if s.m = 3 then mretS s else s) ∧ KpG w w' g := by
  by_cases hm : s.m = 3
  · rw [if_pos hm, if_pos hm, decide_eq_true hm]
    refine mret_go g s w hI hs hm (mppW s) rfl (mretS s) _ rfl ?_
    unfold mretS
    by_cases h : mppW s = 3
    · exact .inl ⟨h, by rw [if_pos h, h]; rfl⟩
    · exact .inr ⟨h, by rw [if_neg h]⟩
  · rw [if_neg hm, if_neg hm, decide_eq_false hm]
    refine (mret_no g s w hI hm).mono ?_
    rintro e w' ⟨rfl, rfl⟩
    exact ⟨rfl, hI, Kp.refl _ _⟩
def sretB (s : VS) : Bool := decide (¬ (s.m = 0 ∨ (s.m = 1 ∧ bitW (s.r 1) 22 = true)))
set_option maxHeartbeats 8000000 in
set_option maxRecDepth 100000 in
theorem sret_no0 (g : Nat) (s : VS) (w : World) (hI : St FT w g s) (hm : s.m = 0) :
    Calls Try.prog 21 #[.pointer (some ⟨g, 0, none⟩)] w fun e w' => e = .returned (.tuple #[.int .u64 0, .bool false]) ∧ ∃ m, w' = w.drewN m := by
  have c0 := hI.c0
  rw [hm] at c0
  clear hm
  go_enter Try.func21, Try.ntmps21
  go_wp2
  go_ret2
  exact ⟨rfl, 0, rfl⟩
set_option maxHeartbeats 8000000 in
set_option maxRecDepth 100000 in
theorem sret_no1 (g : Nat) (s : VS) (w : World) (hI : St FT w g s) (hs : s.ok) (hm : s.m = 1) (hb : bitW (s.r 1) 22 = true) :
    Calls Try.prog 21 #[.pointer (some ⟨g, 0, none⟩)] w fun e w' => e = .returned (.tuple #[.int .u64 0, .bool false]) ∧ ∃ m, w' = w.drewN m := by
  have c0 := hI.c0
  rw [hm] at c0
  have P : Aside0 (Calls Try.prog 20 #[.pointer (some ⟨g, 0, none⟩), .int .i64 22] w fun e w' => e = .returned (.bool true) ∧ ∃ m, w' = w.drewN m) := ⟨by
    have := is_c g s 22 w hI hs; rw [hb] at this; exact this⟩
  clear hm hb
  go_enter Try.func21, Try.ntmps21
  go_wp2_with (go_at_call 20; refine P.out.mono ?_; rintro e w' ⟨rfl, m, rfl⟩)
  go_ret2
  exact ⟨rfl, m, rfl⟩
/-- Behind the looks: the mode is left, and the bits are turned. -/
def sretT (s : VS) (M : Int) : VS := setW (setW (setW (setW (s.mode M) 1 (bitW (s.r 1) 5)) 5 true) 8 false) 17 false
set_option maxHeartbeats 8000000 in
set_option maxRecDepth 100000 in
theorem sret_st (g : Nat) (s : VS) (w : World) (hI : St FT w g s) (hs : s.ok) (hm : s.m = 1) (hb : bitW (s.r 1) 22 = false) (h8 : bitW (s.r 1) 8 = true) (r : Nat) (hr : r = s.r 16) :
    Calls Try.prog 21 #[.pointer (some ⟨g, 0, none⟩)] w fun e w' => e = .returned (.tuple #[.int .u64 (r : Int), .bool true]) ∧ St FT w' g (sretT s 1) ∧ KpG w w' g := by
  have c0 := hI.c0
  have f0 := hI.f 0
  rw [hm] at c0
  have P : Aside0 (∀ W, St FT W g s → Calls Try.prog 20 #[.pointer (some ⟨g, 0, none⟩), .int .i64 22] W fun e w' => e = .returned (.bool false) ∧ ∃ m, w' = W.drewN m) := ⟨fun W h => by
    have := is_c g s 22 W h hs; rw [hb] at this; exact this⟩
  have P8 : Aside0 (∀ W, St FT W g (s.mode 0) → Calls Try.prog 20 #[.pointer (some ⟨g, 0, none⟩), .int .i64 8] W fun e w' => e = .returned (.bool true) ∧ ∃ m, w' = W.drewN m) := ⟨fun W h => by
    have := is_c g (s.mode 0) 8 W h hs; rw [show (s.mode 0).r 1 = s.r 1 from rfl, h8] at this; exact this⟩
  have S1 : (s.mode 1).ok := hs
  have S2 := setW_ok S1 (show 1 ≤ 63 by decide) (bitW (s.r 1) 5)
  have S3 := setW_ok S2 (show 5 ≤ 63 by decide) true
  have S4 := setW_ok S3 (show 8 ≤ 63 by decide) false
  have HR := Aside0.mk hr
  clear hm h8 hr hb
  go_enter Try.func21, Try.ntmps21
  go_wp2_with (go_at_call_of 20 (Value.int IntKind.i64 22); refine (P.out _ hI).mono ?_; rintro e w' ⟨rfl, m, rfl⟩)
  have hI1 : St FT _ g (s.mode 0) := (hI.drewN m).set0 0
  have K1 := ((Kp.refl w (fun i => i = g)).drewN m).setCell (p := ⟨g, 0, none⟩) (.inl rfl) (.int .i64 0)
  refine (P8.out _ hI1).mono ?_
  rintro e w4 ⟨rfl, m4, rfl⟩
  have f0' := (hI1.drewN m4).f 0
  have c0' := (hI1.drewN m4).c0
  go_wp2_with (fail)
  have hI2 : St FT _ g (s.mode 1) := (hI1.drewN m4).set0 1
  have K2 := (K1.drewN m4).setCell (p := ⟨g, 0, none⟩) (.inl rfl) (.int .i64 1)
  refine (is_c g _ 5 _ hI2 S1).mono ?_
  rintro e w5 ⟨rfl, m5, rfl⟩
  go_wp2_with (fail)
  refine (set_l g _ 1 _ _ (hI2.drewN m5) S1 (by decide)).mono ?_
  rintro e w6 ⟨rfl, hI6, k6⟩
  have K6 := (K2.drewN m5).trans k6
  clear hI2 K2 k6 hI1 K1 c0 f0
  go_wp2_with (fail)
  refine (set_l g _ 5 _ _ hI6 S2 (by decide)).mono ?_
  rintro e w7 ⟨rfl, hI7, k7⟩
  have K7 := K6.trans k7
  clear hI6 K6 k7
  go_wp2_with (fail)
  refine (set_l g _ 8 _ _ hI7 S3 (by decide)).mono ?_
  rintro e w8 ⟨rfl, hI8, k8⟩
  have K8 := K7.trans k8
  clear hI7 K7 k8
  go_wp2_with (fail)
  refine (set_l g _ 17 _ _ hI8 S4 (by decide)).mono ?_
  rintro e w9 ⟨rfl, hI9, k9⟩
  have d16 : w9.cell? ⟨g, 16, none⟩ = some (.int .u64 (r : Int)) := by rw [HR.out]; exact hI9.c 16
  have K9 := K8.trans k9
  clear hI8 K8 k9
  go_wp2
  go_ret2
  exact ⟨rfl, hI9, K9⟩
set_option maxHeartbeats 8000000 in
set_option maxRecDepth 100000 in
theorem sret_sf (g : Nat) (s : VS) (w : World) (hI : St FT w g s) (hs : s.ok) (hm : s.m = 1) (hb : bitW (s.r 1) 22 = false) (h8 : bitW (s.r 1) 8 = false) (r : Nat) (hr : r = s.r 16) :
    Calls Try.prog 21 #[.pointer (some ⟨g, 0, none⟩)] w fun e w' => e = .returned (.tuple #[.int .u64 (r : Int), .bool true]) ∧ St FT w' g (sretT s 0) ∧ KpG w w' g := by
  have c0 := hI.c0
  have f0 := hI.f 0
  rw [hm] at c0
  have P : Aside0 (∀ W, St FT W g s → Calls Try.prog 20 #[.pointer (some ⟨g, 0, none⟩), .int .i64 22] W fun e w' => e = .returned (.bool false) ∧ ∃ m, w' = W.drewN m) := ⟨fun W h => by
    have := is_c g s 22 W h hs; rw [hb] at this; exact this⟩
  have P8 : Aside0 (∀ W, St FT W g (s.mode 0) → Calls Try.prog 20 #[.pointer (some ⟨g, 0, none⟩), .int .i64 8] W fun e w' => e = .returned (.bool false) ∧ ∃ m, w' = W.drewN m) := ⟨fun W h => by
    have := is_c g (s.mode 0) 8 W h hs; rw [show (s.mode 0).r 1 = s.r 1 from rfl, h8] at this; exact this⟩
  have S1 : (s.mode 0).ok := hs
  have S2 := setW_ok S1 (show 1 ≤ 63 by decide) (bitW (s.r 1) 5)
  have S3 := setW_ok S2 (show 5 ≤ 63 by decide) true
  have S4 := setW_ok S3 (show 8 ≤ 63 by decide) false
  have HR := Aside0.mk hr
  clear hm h8 hr hb
  go_enter Try.func21, Try.ntmps21
  go_wp2_with (go_at_call_of 20 (Value.int IntKind.i64 22); refine (P.out _ hI).mono ?_; rintro e w' ⟨rfl, m, rfl⟩)
  have hI1 : St FT _ g (s.mode 0) := (hI.drewN m).set0 0
  have K1 := ((Kp.refl w (fun i => i = g)).drewN m).setCell (p := ⟨g, 0, none⟩) (.inl rfl) (.int .i64 0)
  refine (P8.out _ hI1).mono ?_
  rintro e w4 ⟨rfl, m4, rfl⟩
  go_wp2_with (fail)
  refine (is_c g _ 5 _ (hI1.drewN m4) S1).mono ?_
  rintro e w5 ⟨rfl, m5, rfl⟩
  go_wp2_with (fail)
  refine (set_l g _ 1 _ _ (hI1.drewN (m4 + m5)) S1 (by decide)).mono ?_
  rintro e w6 ⟨rfl, hI6, k6⟩
  have K6 := (K1.drewN (m4 + m5)).trans k6
  clear k6 hI1 K1 c0 f0
  go_wp2_with (fail)
  refine (set_l g _ 5 _ _ hI6 S2 (by decide)).mono ?_
  rintro e w7 ⟨rfl, hI7, k7⟩
  have K7 := K6.trans k7
  clear hI6 K6 k7
  go_wp2_with (fail)
  refine (set_l g _ 8 _ _ hI7 S3 (by decide)).mono ?_
  rintro e w8 ⟨rfl, hI8, k8⟩
  have K8 := K7.trans k8
  clear hI7 K7 k8
  go_wp2_with (fail)
  refine (set_l g _ 17 _ _ hI8 S4 (by decide)).mono ?_
  rintro e w9 ⟨rfl, hI9, k9⟩
  have d16 : w9.cell? ⟨g, 16, none⟩ = some (.int .u64 (r : Int)) := by rw [HR.out]; exact hI9.c 16
  have K9 := K8.trans k9
  clear hI8 K8 k9
  go_wp2
  go_ret2
  exact ⟨rfl, hI9, K9⟩
set_option maxHeartbeats 8000000 in
set_option maxRecDepth 100000 in
theorem sret_mt (g : Nat) (s : VS) (w : World) (hI : St FT w g s) (hs : s.ok) (hm : s.m = 3) (h8 : bitW (s.r 1) 8 = true) (r : Nat) (hr : r = s.r 16) :
    Calls Try.prog 21 #[.pointer (some ⟨g, 0, none⟩)] w fun e w' => e = .returned (.tuple #[.int .u64 (r : Int), .bool true]) ∧ St FT w' g (sretT s 1) ∧ KpG w w' g := by
  have c0 := hI.c0
  have f0 := hI.f 0
  rw [hm] at c0
  have P8 : Aside0 (∀ W, St FT W g (s.mode 0) → Calls Try.prog 20 #[.pointer (some ⟨g, 0, none⟩), .int .i64 8] W fun e w' => e = .returned (.bool true) ∧ ∃ m, w' = W.drewN m) := ⟨fun W h => by
    have := is_c g (s.mode 0) 8 W h hs; rw [show (s.mode 0).r 1 = s.r 1 from rfl, h8] at this; exact this⟩
  have S1 : (s.mode 1).ok := hs
  have S2 := setW_ok S1 (show 1 ≤ 63 by decide) (bitW (s.r 1) 5)
  have S3 := setW_ok S2 (show 5 ≤ 63 by decide) true
  have S4 := setW_ok S3 (show 8 ≤ 63 by decide) false
  have HR := Aside0.mk hr
  clear hm h8 hr
  go_enter Try.func21, Try.ntmps21
  go_wp2_with (fail)
  have hI1 : St FT _ g (s.mode 0) := hI.set0 0
  have K1 := (Kp.refl w (fun i => i = g)).setCell (p := ⟨g, 0, none⟩) (.inl rfl) (.int .i64 0)
  refine (P8.out _ hI1).mono ?_
  rintro e w4 ⟨rfl, m4, rfl⟩
  have f0' := (hI1.drewN m4).f 0
  have c0' := (hI1.drewN m4).c0
  go_wp2_with (fail)
  have hI2 : St FT _ g (s.mode 1) := (hI1.drewN m4).set0 1
  have K2 := (K1.drewN m4).setCell (p := ⟨g, 0, none⟩) (.inl rfl) (.int .i64 1)
  refine (is_c g _ 5 _ hI2 S1).mono ?_
  rintro e w5 ⟨rfl, m5, rfl⟩
  go_wp2_with (fail)
  refine (set_l g _ 1 _ _ (hI2.drewN m5) S1 (by decide)).mono ?_
  rintro e w6 ⟨rfl, hI6, k6⟩
  have K6 := (K2.drewN m5).trans k6
  clear hI2 K2 k6 hI1 K1 c0 f0
  go_wp2_with (fail)
  refine (set_l g _ 5 _ _ hI6 S2 (by decide)).mono ?_
  rintro e w7 ⟨rfl, hI7, k7⟩
  have K7 := K6.trans k7
  clear hI6 K6 k7
  go_wp2_with (fail)
  refine (set_l g _ 8 _ _ hI7 S3 (by decide)).mono ?_
  rintro e w8 ⟨rfl, hI8, k8⟩
  have K8 := K7.trans k8
  clear hI7 K7 k8
  go_wp2_with (fail)
  refine (set_l g _ 17 _ _ hI8 S4 (by decide)).mono ?_
  rintro e w9 ⟨rfl, hI9, k9⟩
  have d16 : w9.cell? ⟨g, 16, none⟩ = some (.int .u64 (r : Int)) := by rw [HR.out]; exact hI9.c 16
  have K9 := K8.trans k9
  clear hI8 K8 k9
  go_wp2
  go_ret2
  exact ⟨rfl, hI9, K9⟩
set_option maxHeartbeats 8000000 in
set_option maxRecDepth 100000 in
theorem sret_mf (g : Nat) (s : VS) (w : World) (hI : St FT w g s) (hs : s.ok) (hm : s.m = 3) (h8 : bitW (s.r 1) 8 = false) (r : Nat) (hr : r = s.r 16) :
    Calls Try.prog 21 #[.pointer (some ⟨g, 0, none⟩)] w fun e w' => e = .returned (.tuple #[.int .u64 (r : Int), .bool true]) ∧ St FT w' g (sretT s 0) ∧ KpG w w' g := by
  have c0 := hI.c0
  have f0 := hI.f 0
  rw [hm] at c0
  have P8 : Aside0 (∀ W, St FT W g (s.mode 0) → Calls Try.prog 20 #[.pointer (some ⟨g, 0, none⟩), .int .i64 8] W fun e w' => e = .returned (.bool false) ∧ ∃ m, w' = W.drewN m) := ⟨fun W h => by
    have := is_c g (s.mode 0) 8 W h hs; rw [show (s.mode 0).r 1 = s.r 1 from rfl, h8] at this; exact this⟩
  have S1 : (s.mode 0).ok := hs
  have S2 := setW_ok S1 (show 1 ≤ 63 by decide) (bitW (s.r 1) 5)
  have S3 := setW_ok S2 (show 5 ≤ 63 by decide) true
  have S4 := setW_ok S3 (show 8 ≤ 63 by decide) false
  have HR := Aside0.mk hr
  clear hm h8 hr
  go_enter Try.func21, Try.ntmps21
  go_wp2_with (fail)
  have hI1 : St FT _ g (s.mode 0) := hI.set0 0
  have K1 := (Kp.refl w (fun i => i = g)).setCell (p := ⟨g, 0, none⟩) (.inl rfl) (.int .i64 0)
  refine (P8.out _ hI1).mono ?_
  rintro e w4 ⟨rfl, m4, rfl⟩
  go_wp2_with (fail)
  refine (is_c g _ 5 _ (hI1.drewN m4) S1).mono ?_
  rintro e w5 ⟨rfl, m5, rfl⟩
  go_wp2_with (fail)
  refine (set_l g _ 1 _ _ (hI1.drewN (m4 + m5)) S1 (by decide)).mono ?_
  rintro e w6 ⟨rfl, hI6, k6⟩
  have K6 := (K1.drewN (m4 + m5)).trans k6
  clear k6 hI1 K1 c0 f0
  go_wp2_with (fail)
  refine (set_l g _ 5 _ _ hI6 S2 (by decide)).mono ?_
  rintro e w7 ⟨rfl, hI7, k7⟩
  have K7 := K6.trans k7
  clear hI6 K6 k7
  go_wp2_with (fail)
  refine (set_l g _ 8 _ _ hI7 S3 (by decide)).mono ?_
  rintro e w8 ⟨rfl, hI8, k8⟩
  have K8 := K7.trans k8
  clear hI7 K7 k8
  go_wp2_with (fail)
  refine (set_l g _ 17 _ _ hI8 S4 (by decide)).mono ?_
  rintro e w9 ⟨rfl, hI9, k9⟩
  have d16 : w9.cell? ⟨g, 16, none⟩ = some (.int .u64 (r : Int)) := by rw [HR.out]; exact hI9.c 16
  have K9 := K8.trans k9
  clear hI8 K8 k9
  go_wp2
  go_ret2
  exact ⟨rfl, hI9, K9⟩
theorem sret_c (g : Nat) (s : VS) (w : World) (hI : St FT w g s) (hs : s.ok) (hm : modeOk s) :
    Calls Try.prog 21 #[.pointer (some ⟨g, 0, none⟩)] w fun e w' => e = .returned (.tuple #[.int .u64 ((if sretB s = true then s.r 16 else 0 : Nat) : Int), .bool (sretB s)]) ∧ St FT w' g (if sretB s = true then sretS s else s) ∧ KpG w w' g := by
  have no : ∀ (h : s.m = 0 ∨ (s.m = 1 ∧ bitW (s.r 1) 22 = true)), sretB s = false := fun h => decide_eq_false (fun q => q h)
  have yes : ∀ (h : ¬ (s.m = 0 ∨ (s.m = 1 ∧ bitW (s.r 1) 22 = true))), sretB s = true := fun h => decide_eq_true h
  rcases hm with hm | hm | hm
  · rw [no (.inl hm)]
    refine (sret_no0 g s w hI hm).mono ?_
    rintro e w' ⟨rfl, m, rfl⟩
    exact ⟨rfl, hI.drewN _, (Kp.refl _ _).drewN _⟩
  · cases hb : bitW (s.r 1) 22
    · rw [yes (by rw [hm, hb]; simp), if_pos rfl, if_pos rfl]
      unfold sretS
      cases h8 : bitW (s.r 1) 8
      · exact sret_sf g s w hI hs hm hb h8 _ rfl
      · exact sret_st g s w hI hs hm hb h8 _ rfl
    · rw [no (.inr ⟨hm, hb⟩)]
      refine (sret_no1 g s w hI hs hm hb).mono ?_
      rintro e w' ⟨rfl, m, rfl⟩
      exact ⟨rfl, hI.drewN _, (Kp.refl _ _).drewN _⟩
  · rw [yes (by rw [hm]; simp), if_pos rfl, if_pos rfl]
    unfold sretS
    cases h8 : bitW (s.r 1) 8
    · exact sret_mf g s w hI hs hm h8 _ rfl
    · exact sret_mt g s w hI hs hm h8 _ rfl
end Go.Proofs.Ytnknfepbekaobaa.H
/- A region that draws its order: operations that read, or call what only lays new blocks, ahead of a tail in one forced order. After the library's proof of 'wp_region_still_tail' (one world), here over a class of worlds. -/
namespace Go.Proofs.Ytnknfepbekaobaa.H
open Go.RowKit Go.Proofs.YtnknfepbekaobaaW.PrintWords Go.Proofs.YtnknfepbekaobaaW.PrintLast Go.Proofs.Ytnknfepbekaobaa.PAl Go.Proofs.Ytnknfepbekaobaa.Pure Go.Proofs.Ytnknfepbekaobaa.Vw
set_option linter.unusedVariables false
set_option linter.unusedSimpArgs false
open Go.Sort
section
variable {P : Program} {ops : Array Oper} {md : Region.Mode} {C : World → Prop}
def wpAnyLQ (P : Program) (md : Region.Mode) (ops : Array Oper) (C : World → Prop) (n : Nat) (L : Array Bool → Act → Prop) : Nat → Array Bool → Act → Prop
  | 0, listed, a => L listed a
  | f + 1, listed, a =>
    Region.ready md ops listed ≠ [] ∧ ∀ i ∈ Region.ready md ops listed, i < n ∧ qOp P ops C i (wpAnyLQ P md ops C n L f (listed.setIfInBounds i true)) a
theorem wpAny_of_headQ {n g : Nat} {L : Array Bool → Act → Prop} {Q' : Exit → Act → World → Prop} (hL : ∀ listed a w, C w → L listed a → wpAny P md ops Q' g listed a w) :
    ∀ (f : Nat) (listed : Array Bool) (a : Act) (w : World), C w → wpAnyLQ P md ops C n L f listed a → wpAny P md ops Q' (f + g) listed a w
  | 0, listed, a, w, hw, h => by rw [Nat.zero_add]; exact hL _ _ _ hw h
  | f + 1, listed, a, w, hw, h => by
    rw [show f + 1 + g = (f + g) + 1 by omega]
    exact ⟨fun h0 => absurd h0 h.1, fun i hi => wpOp_of_qOp hw (fun a' w' hw' h' => wpAny_of_headQ hL f _ a' w' hw' h') (h.2 i hi).2⟩
theorem wpAnyLQ_first {n i : Nat} {oi : Oper} {v : Value} {L : Array Bool → Act → Prop} (hi : ops[i]? = some oi) (hsel : ∀ (j : Nat) (o : Oper) cs b, ops[j]? = some o → o.op ≠ .select cs b)
    (hs : Region.sinkB md ops n = true) (hc : Region.chainB md ops n = true) (hn : n < ops.size) (hin : i < n)
    (hdone : ∀ listed a, L listed a → ∀ j ∈ Region.ready md ops listed, n ≤ j) :
    ∀ (f : Nat) (listed : Array Bool) (a : Act), HeadInv md ops n listed →
      (∀ j oj, ops[j]? = some oj → j ≠ i → listed.getD j true = false → (∀ e ∈ oj.after, Region.binds md e = true → e.on ≠ i) → oi.apart ops oj = true) →
      i ∈ Region.ready md ops listed → YieldsIn P ops C oi v a →
      wpAnyLQ P md ops C n L f (listed.setIfInBounds i true) (a.put oi.dst v) → wpAnyLQ P md ops C n L (f + 1) listed a := by
  intro f
  induction f with
  | zero =>
    intro listed a inv _ hr hy H
    have hun := (mem_ready.1 hr).1
    refine ⟨fun h => (by rw [h] at hr; cases hr), fun j hj => ?_⟩
    have hjn : j < n := by
      rcases Nat.lt_or_ge j n with h | h
      · exact h
      · exact absurd hj (tail_waits hs hc hn inv _ i rfl hin hun j h)
    refine ⟨hjn, ?_⟩
    by_cases hji : j = i
    · subst hji; exact hy.qOp hi H
    · have := hdone _ _ H j (ready_mono hj hji)
      omega
  | succ f ih =>
    intro listed a inv hfree hr hy H
    have hun := (mem_ready.1 hr).1
    refine ⟨fun h => (by rw [h] at hr; cases hr), fun j hj => ?_⟩
    have hjn : j < n := by
      rcases Nat.lt_or_ge j n with h | h
      · exact h
      · exact absurd hj (tail_waits hs hc hn inv _ i rfl hin hun j h)
    refine ⟨hjn, ?_⟩
    by_cases hji : j = i
    · subst hji; exact hy.qOp hi H
    · have h1 := (H.2 j (ready_mono hj hji)).2
      obtain ⟨hjun, oj, hoj, hall⟩ := mem_ready.1 hj
      have hnot : ∀ e ∈ oj.after, Region.binds md e = true → e.on ≠ i := fun e he hb heq => by
        have h1 := hall e he hb
        rw [heq, getD_both hun] at h1
        cases h1
      have h2 := qOp_put hoj (hfree j oj hoj hji hjun hnot) (fun cs b => hsel i oi cs b hi) (fun cs b => hsel j oj cs b hoj) hy h1
      have hfree' : ∀ k ok, ops[k]? = some ok → k ≠ i → (listed.setIfInBounds j true).getD k true = false →
          (∀ e ∈ ok.after, Region.binds md e = true → e.on ≠ i) → oi.apart ops ok = true := fun k ok hk hki hun hno => by
        refine hfree k ok hk hki ?_ hno
        by_cases hjk : j = k
        · subst hjk; exact hjun
        · rw [getD_set_ne true hjk] at hun; exact hun
      refine qOp_mono (fun a' h3 => ih (listed.setIfInBounds j true) a' (inv.set hj hjn) hfree' (ready_mono hr (Ne.symm hji)) h3.1 ?_) h2
      rw [Array.setIfInBounds_comm _ _ hji]
      exact h3.2
theorem wpAnyLQ_lex {n g : Nat} {Lq : Act → Prop} (hsel : Region.noSelect ops = true) (hs : Region.sinkB md ops n = true) (hc : Region.chainB md ops n = true) (hn : n < ops.size) :
    ∀ (l : List Oper) (k : Nat) (listed : Array Bool) (a : Act), (∀ j, j < l.length → l[j]? = ops[k + j]?) → k + l.length = n → HeadInv md ops n listed →
    Region.lexHead md ops g l.length k listed = true → wpQuiet P ops C Lq l a →
    wpAnyLQ P md ops C n (fun listed' a' => Region.seqB md ops g n listed' = true ∧ Lq a') l.length listed a
  | [], k, listed, a, _, hk, _, hB, h => by
    have : k = n := by simpa using hk
    subst this
    exact ⟨by simpa [Region.lexHead] using hB, h⟩
  | o :: l, k, listed, a, hl, hk, inv, hB, h => by
    have h0 : ops[k]? = some o := by simpa using (hl 0 (by simp)).symm
    simp only [List.length_cons, Region.lexHead, Bool.and_eq_true] at hB
    obtain ⟨⟨hr, hf⟩, hB'⟩ := hB
    have hkn : k < n := by simp only [List.length_cons] at hk; omega
    have hr' : k ∈ Region.ready md ops listed := by simpa using hr
    have hst : qOp P ops C k (wpQuiet P ops C Lq l) a := by unfold qOp; simp only [h0]; exact h
    obtain ⟨v, hy, hK⟩ := yieldsIn_of_qOp h0 hst
    exact wpAnyLQ_first h0 (Region.noSelect_spec hsel) hs hc hn hkn (fun listed' a' hL => seqB_ready hL.1) l.length listed a inv (Region.free_spec h0 hf) hr' hy
      (wpAnyLQ_lex hsel hs hc hn l (k + 1) _ _ (fun j hj => by have := hl (j + 1) (by simp; omega); simpa [Nat.add_assoc, Nat.add_comm 1 j] using this) (by simp only [List.length_cons] at hk; omega) (inv.set hr' hkn) hB' hK)
theorem wp_region_class_tail {id : Nat} {Q : Exit → Act → World → Prop} {a : Act} {w : World} {l : List Oper} (n : Nat) (hm : P.follows .mixedOrders = true) (hB : Region.lexTailB .any l.toArray n = true) (hw : C { w with drawn := w.drawn + 1 })
    (h : wpQuiet P l.toArray C (fun a' => ∀ w', C w' → wpList P l.toArray Q (l.drop n) a' w') (l.take n) a) : (Code.region id l.toArray true).wp P Q a w := by
  simp only [Region.lexTailB, Bool.and_eq_true, decide_eq_true_eq] at hB
  obtain ⟨⟨⟨⟨hsel, hn⟩, hs⟩, hc⟩, hlex⟩ := hB
  have hn' : n < l.length := by simpa using hn
  have htl : (l.take n).length = n := by simp; omega
  have hdl : (l.drop n).length = l.toArray.size - n := by simp
  have inv0 : HeadInv .any l.toArray n (Array.replicate l.toArray.size false) :=
    ⟨by simp, fun j oj _ hl => (by rw [getD_replicate_false] at hl; cases hl), fun t _ ht => getD_in (by simpa using ht) (getD_replicate_false _ _)⟩
  have H := wpAnyLQ_lex (md := .any) (g := l.toArray.size - n) hsel hs hc hn (l.take n) 0 _ a (fun j hj => by
    have hj' : j < n := by rw [htl] at hj; exact hj
    simp [hj']) (by simpa using htl) inv0 (by rw [htl]; exact hlex) h
  refine wp_region_any hm ?_
  have := wpAny_of_headQ (Q' := Q) (g := l.toArray.size - n) (fun listed a' w' hw' hL => by
    have := wpAny_of_seq (md := .any) (Q' := Q) (l.drop n) n listed a' w' (fun j => by simp [List.getElem?_drop]) (by rw [hdl]; exact hL.1) (hL.2 w' hw')
    rwa [hdl] at this) _ _ _ _ hw H
  rw [htl, show n + (l.toArray.size - n) = l.toArray.size by omega] at this
  exact this
/-- The class: what was there is as it was, blocks may have been laid. -/
abbrev Rg (w w' : World) : Prop := ∃ p : Regrown, w' = grow (redrawn w p.d) p.os
theorem wp_region_rg {id : Nat} {Q : Exit → Act → World → Prop} {a : Act} {w : World} {l : List Oper} (n : Nat) (hm : P.follows .mixedOrders = true) (hB : Region.lexTailB .any l.toArray n = true)
    (h : wpQuiet P l.toArray (Rg w) (fun a' => ∀ w', Rg w w' → wpList P l.toArray Q (l.drop n) a' w') (l.take n) a) : (Code.region id l.toArray true).wp P Q a w :=
  wp_region_class_tail (C := Rg w) n hm hB ⟨⟨w.drawn + 1, #[]⟩, by rw [grow_empty]; rfl⟩ h
theorem Rg.kp {w w' : World} (h : Rg w w') : KpN w w' := by obtain ⟨p, rfl⟩ := h; exact Kp.of_below (below_regrown w p.d p.os) _
theorem rg_calls {f : FuncId} {args : Array Value} {w : World} {v : Value} (h : ∀ W, KpN w W → Calls P f args W fun e w' => e = .returned v ∧ KpN W w') :
    ∀ d os, Calls P f args (grow (redrawn w d) os) fun e w'' => e = .returned v ∧ ∃ p : Regrown, w'' = grow (redrawn w p.d) p.os :=
  fun d os => Calls.regrown_of ((h _ (Kp.of_below (below_regrown w d os) _)).mono fun _ _ h => ⟨h.1, h.2.below (fun _ _ h => h.elim) (Nat.le_refl _)⟩)
/-- A whole row, read in a region that draws. -/
theorem wpQuiet_ld {Q : Act → Prop} {a : Act} {o : Oper} {rest : List Oper} (hgd : Region.wanted o (yielded ops a.tmps) = true) {ty : TypeId} {x : Operand} (ho : o.op = .load ty x) (g : Nat) (hx : a.eval x = .pointer (some ⟨g, 0, none⟩)) (t : TypeId) (cs : Array Value) (d : TypeDesc)
    (hg : ∀ w, C w → w.heap[g]? = some (.cells cs t (0, 0))) (hu : P.underlying ty = some d) (hd : (match d with | .struct _ | .array _ _ => true | _ => false) = true) (hi : (P.info? ty).map (·.size) = some cs.size)
    (h : wpQuiet P ops C Q rest (a.put o.dst (.agg cs))) : wpQuiet P ops C Q (o :: rest) a := by
  show if _ then _ else _
  rw [if_pos hgd]
  refine ⟨.agg cs, fun w hC => ?_, h⟩
  unfold Oper.quietAt execOp
  simp only [ho, hx, Instr.loadAt, Instr.sureAddr, Sem.run_bind, Sem.run_pure, Result.andThen_ok, run_loadVar_row w g t ty cs (0, 0) d (hg w hC) hu hd hi]
  exact ⟨rfl, rfl⟩
end
end Go.Proofs.Ytnknfepbekaobaa.H
