/- The hart's registers (package csr), walked by hand: lines, bits of the status, who may, names. -/
import Derived.Test.YtkbnoeebnmphbaaHcsr2
namespace Go.Proofs.Ytkbnoeebnmphbaa.H
open Go.RowKit Go.Proofs.YtkbnoeebnmphbaaW.PrintWords Go.Proofs.YtkbnoeebnmphbaaW.PrintLast Go.Proofs.Ytkbnoeebnmphbaa.PAl Go.Proofs.Ytkbnoeebnmphbaa.Pure Go.Proofs.Ytkbnoeebnmphbaa.Vw
set_option linter.unusedVariables false
set_option linter.unusedSimpArgs false
set_option maxHeartbeats 8000000 in
set_option maxRecDepth 100000 in
theorem hold_c (g : Nat) (s : VS) (x : Nat) (w : World) (hI : St FT w g s) (hx : U x) :
    Calls Try.prog 30 #[.pointer (some ⟨g, 0, none⟩), .int .u64 (x : Int)] w fun e w' => e = .returned (.tuple #[]) ∧ St FT w' g (s.set 6 (x &&& 2696)) ∧ KpG w w' g := by
  have f6 := hI.f 6
  have c6 := hI.c 6
  have e1 : Go.bits .and .u64 (x : Int) 2696 = ((x &&& 2696 : Nat) : Int) := and_l hx
  go_enter Try.func30, Try.ntmps30
  go_wp2
  repeat (go_region; try go_wp2)
  first | go_end0 | ((try simp only [Exit.inBlock, Exit.then]); refine bodyPost_ret (results_none rfl _ _ _) rfl ?_)
  exact ⟨rfl, (by repeat (first | with_reducible exact hI | apply St.drewN | apply St.drew | apply St.alloc | refine St.set0 ?_ _ | refine St.set ?_ _ _)), (by repeat (first | with_reducible exact Kp.refl _ _ | apply Kp.drewN | apply Kp.drew | apply Kp.alloc | refine Kp.setCell ?_ (by first | exact .inl rfl | omega) _))⟩
def setW (s : VS) (b : Nat) (is : Bool) : VS := s.set 1 (if is then s.r 1 ||| 2 ^ b else minus (s.r 1) (2 ^ b))
theorem U.pow {b : Nat} (h : b ≤ 63) : U (2 ^ b) := ⟨Nat.lt_of_le_of_lt (Nat.pow_le_pow_right (by decide) h) (by decide)⟩
theorem setW_ok {s : VS} (h : s.ok) {b : Nat} (hb : b ≤ 63) (is : Bool) : (setW s b is).ok := by
  unfold setW; apply VS.set_ok h; cases is
  · exact (h 1).minus
  · exact (h 1).or (U.pow hb)
set_option maxHeartbeats 8000000 in
set_option maxRecDepth 100000 in
theorem set_c (g : Nat) (s : VS) (b : Nat) (is : Bool) (w : World) (hI : St FT w g s) (hs : s.ok) (hb : b ≤ 63) :
    Calls Try.prog 18 #[.pointer (some ⟨g, 0, none⟩), .int .i64 (b : Int), .bool is] w fun e w' => e = .returned (.tuple #[]) ∧ St FT w' g (setW s b is) ∧ KpG w w' g := by
  have f1 := hI.f 1
  have c1 := hI.c 1
  have hb0 : (0 : Int) ≤ (b : Int) := by omega
  have hb1 : ¬ (b : Int) < 0 := by omega
  have pw : IntKind.u64.wrap ((2 : Int) ^ b) = ((2 ^ b : Nat) : Int) := by
    rw [show ((2 : Int) ^ b) = ((2 ^ b : Nat) : Int) by simp]; exact u64_nat _ (U.pow hb).lt
  have e1 := minus_c (hs 1) (U.pow hb)
  have e2 := or_c (hs 1) (U.pow hb)
  rw [← pw] at e1 e2
  clear pw
  cases is
  · clear e2
    go_enter Try.func18, Try.ntmps18
    go_wp2
    repeat (go_region; try go_wp2)
    first | go_end0 | ((try simp only [Exit.inBlock, Exit.then]); refine bodyPost_ret (results_none rfl _ _ _) rfl ?_)
    exact ⟨rfl, (by repeat (first | with_reducible exact hI | apply St.drewN | apply St.drew | apply St.alloc | refine St.set0 ?_ _ | refine St.set ?_ _ _)), (by repeat (first | with_reducible exact Kp.refl _ _ | apply Kp.drewN | apply Kp.drew | apply Kp.alloc | refine Kp.setCell ?_ (by first | exact .inl rfl | omega) _))⟩
  · clear e1
    go_enter Try.func18, Try.ntmps18
    go_wp2
    repeat (go_region; try go_wp2)
    first | go_end0 | ((try simp only [Exit.inBlock, Exit.then]); refine bodyPost_ret (results_none rfl _ _ _) rfl ?_)
    exact ⟨rfl, (by repeat (first | with_reducible exact hI | apply St.drewN | apply St.drew | apply St.alloc | refine St.set0 ?_ _ | refine St.set ?_ _ _)), (by repeat (first | with_reducible exact Kp.refl _ _ | apply Kp.drewN | apply Kp.drew | apply Kp.alloc | refine Kp.setCell ?_ (by first | exact .inl rfl | omega) _))⟩
set_option maxHeartbeats 8000000 in
set_option maxRecDepth 100000 in
theorem previous_c (g : Nat) (s : VS) (w : World) (hI : St FT w g s) (hs : s.ok) :
    Calls Try.prog 22 #[.pointer (some ⟨g, 0, none⟩)] w fun e w' => e = .returned (.int .i64 ((getW (s.r 1) 11 2 : Nat) : Int)) ∧ ∃ m, w' = w.drewN m := by
  have c1 := hI.c 1
  have hl : getW (s.r 1) 11 2 < 4 := by
    unfold getW; rw [if_pos (by decide)]; exact Nat.mod_lt _ (by decide)
  have e1 : wrap64 ((getW (s.r 1) 11 2 : Nat) : Int) = ((getW (s.r 1) 11 2 : Nat) : Int) := by unfold wrap64; omega
  go_enter Try.func22, Try.ntmps22
  go_wp2_with (go_at_call 40; refine (get_c _ _ _ _ (hs 1)).mono ?_; rintro e w' ⟨rfl, m, rfl⟩)
  go_ret
  exact ⟨rfl, (by first | exact ⟨_, rfl⟩ | exact ⟨0, rfl⟩)⟩
def keepW (s : VS) (m : Nat) : VS := s.set 1 (putW (s.r 1) 11 2 m)
set_option maxHeartbeats 8000000 in
set_option maxRecDepth 100000 in
theorem keep_c (g : Nat) (s : VS) (k : Nat) (w : World) (hI : St FT w g s) (hs : s.ok) (hk : k ≤ 3) :
    Calls Try.prog 20 #[.pointer (some ⟨g, 0, none⟩), .int .i64 (k : Int)] w fun e w' => e = .returned (.tuple #[]) ∧ St FT w' g (keepW s k) ∧ KpG w w' g := by
  have f1 := hI.f 1
  have c1 := hI.c 1
  have hu : U k := ⟨by omega⟩
  have e1 : IntKind.u64.wrap (k : Int) = (k : Int) := u64_nat k hu.lt
  go_enter Try.func20, Try.ntmps20
  go_wp2_with (go_at_call 37; refine (put_c _ _ _ _ _ (hs 1) hu).mono ?_; rintro e w' ⟨rfl, m, rfl⟩)
  first | go_end0 | ((try simp only [Exit.inBlock, Exit.then]); refine bodyPost_ret (results_none rfl _ _ _) rfl ?_)
  exact ⟨rfl, (by repeat (first | with_reducible exact hI | apply St.drewN | apply St.drew | apply St.alloc | refine St.set0 ?_ _ | refine St.set ?_ _ _)), (by repeat (first | with_reducible exact Kp.refl _ _ | apply Kp.drewN | apply Kp.drew | apply Kp.alloc | refine Kp.setCell ?_ (by first | exact .inl rfl | omega) _))⟩
theorem zeroF (W : World) : (zeroValue FT).run Try.prog W = .ok (.agg (VS.mk 0 fun _ => 0).cells) W := by kernel_rfl
theorem infoF : (Try.prog.info? FT).map (·.size) = some 23 := by kernel_rfl
def vs0 : VS := ⟨3, fun _ => 0⟩
theorem vs0_ok : vs0.ok := fun _ => ⟨by show 0 < _; decide⟩
set_option maxHeartbeats 8000000 in
set_option maxRecDepth 100000 in
theorem begin_c (w : World) :
    Calls Try.prog 28 #[] w fun e w' => e = .returned (.agg vs0.cells) ∧ Kp w w' (fun _ => False) := by
  go_enter Try.func28, Try.ntmps28
  go_wp2_with (first
    | ((with_reducible refine gate_dst (N := 0) rfl ?_); refine al_ev rfl rfl (N := 0) rfl _ (zeroF _) ?_; intro g hg w1 hb1 hk1; have Hg := Aside0.mk hg; clear hg)
    | ((with_reducible refine gate_store (t := 35) (p := 0) rfl ?_); refine st_ev rfl rfl rfl g vs0.cells _ _ rfl rfl hb1 infoF rfl (VS.one _) ?_; intro w2 hb2 hk2))
  refine bodyPost_ret (results_cell_row rfl _ _ g FT vs0.cells (0, 0) _ rfl hb2 Try.underlying35 rfl infoF) rfl ?_
  exact ⟨rfl, hk1.then hk2 fun k hk (e : k = g) => by have := Hg.out; omega⟩
def knownW (n : Int) : Bool := decide (placeW n ≠ 0) || decide (n = 768 ∨ n = 256 ∨ n = 769 ∨ n = 836 ∨ n = 324 ∨ n = 260 ∨ n = 3857 ∨ n = 3858 ∨ n = 3859 ∨ n = 3860)
set_option maxHeartbeats 8000000 in
set_option maxRecDepth 100000 in
theorem known_c (n : Int) (w : World) :
    Calls Try.prog 26 #[.int .i64 n] w fun e w' => e = .returned (.bool (knownW n)) ∧ Kp w w' (fun _ => False) := by
  by_cases hp : placeW n = 0
  · go_enter Try.func26, Try.ntmps26
    go_wp2_with (go_at_call 33; refine (place_nil _ _ _ hp).mono ?_; rintro e w' ⟨rfl, rfl⟩)
    all_goals go_ret
    all_goals (refine ⟨congrArg Ending.returned ?_, (by repeat (first | with_reducible exact Kp.refl _ _ | apply Kp.drewN | apply Kp.drew | apply Kp.alloc | refine Kp.setCell ?_ (by first | exact .inl rfl | omega) _))⟩; simp only [beq_iff_eq, beq_eq_false_iff_ne] at *; simp [knownW, *])
  · obtain ⟨p, hpe⟩ : ∃ p, placeW n = p := ⟨_, rfl⟩
    have hp1 : 1 ≤ p := by omega
    have Hpe := Aside0.mk hpe
    clear hpe hp
    go_enter Try.func26, Try.ntmps26
    go_wp2_with (go_at_call 33; refine (place_some _ _ _ p Hpe.out hp1).mono ?_; rintro e w' ⟨rfl, rfl⟩)
    all_goals go_ret
    all_goals (have hpe := Hpe.out; have hp0 : p ≠ 0 := (by omega); refine ⟨congrArg Ending.returned ?_, (by repeat (first | with_reducible exact Kp.refl _ _ | apply Kp.drewN | apply Kp.drew | apply Kp.alloc | refine Kp.setCell ?_ (by first | exact .inl rfl | omega) _))⟩; simp only [beq_iff_eq, beq_eq_false_iff_ne] at *; simp [knownW, *])
end Go.Proofs.Ytkbnoeebnmphbaa.H
