/- The hart's registers (package csr), walked by hand: lines, bits of the status, who may, names. -/
import Derived.Test.YtlhdildnekllhaaHcsr2
namespace Go.Proofs.Ytlhdildnekllhaa.H
open Go.RowKit Go.Proofs.YtlhdildnekllhaaW.PrintWords Go.Proofs.YtlhdildnekllhaaW.PrintLast Go.Proofs.Ytlhdildnekllhaa.PAl Go.Proofs.Ytlhdildnekllhaa.Pure Go.Proofs.Ytlhdildnekllhaa.Vw
set_option linter.unusedVariables false
set_option linter.unusedSimpArgs false
set_option maxHeartbeats 8000000 in
set_option maxRecDepth 100000 in
theorem hold_c (g : Nat) (s : VS) (x : Nat) (w : World) (hI : St FT w g s) (hx : U x) :
    Calls Try.prog 44 #[.pointer (some ⟨g, 0, none⟩), .int .u64 (x : Int)] w fun e w' => e = .returned (.tuple #[]) ∧ St FT w' g (s.set 6 (x &&& 2696)) ∧ KpG w w' g := by
  have f6 := hI.f 6
  have c6 := hI.c 6
  have e1 : Go.bits .and .u64 (x : Int) 2696 = ((x &&& 2696 : Nat) : Int) := and_l hx
  go_enter Try.func44, Try.ntmps44
  go_wp2
  repeat (go_region; try go_wp2)
  first | go_end0 | ((try simp only [Exit.inBlock, Exit.then]); refine bodyPost_ret (results_none rfl _ _ _) rfl ?_)
  exact ⟨rfl, (by repeat (first | with_reducible exact hI | apply St.drewN | apply St.drew | apply St.alloc | refine St.set0 ?_ _ | refine St.set ?_ _ _)), (by repeat (first | with_reducible exact Kp.refl _ _ | apply Kp.drewN | apply Kp.drew | apply Kp.alloc | refine Kp.setCell ?_ (by first | exact .inl rfl | omega) _))⟩
def setW (s : VS) (b : Nat) (is : Bool) : VS := s.set 1 (if is then s.r 1 ||| 2 ^ b else minus (s.r 1) (2 ^ b))
theorem U.pow {b : Nat} (h : b ≤ 63) : U (2 ^ b) := ⟨Nat.lt_of_le_of_lt (Nat.pow_le_pow_right (by decide) h) (by decide)⟩
theorem setW_ok {s : VS} (h : s.ok) {b : Nat} (hb : b ≤ 63) (is : Bool) : (setW s b is).ok := by
  unfold setW; apply VS.set_ok h; cases is
  · exact (h 1).minus
  · exact (h 1).or (U.pow hb)
set_option maxHeartbeats 8000000 in
set_option maxRecDepth 100000 in
theorem previous_c (g : Nat) (s : VS) (w : World) (hI : St FT w g s) (hs : s.ok) :
    Calls Try.prog 49 #[.pointer (some ⟨g, 0, none⟩)] w fun e w' => e = .returned (.int .i64 ((getW (s.r 1) 11 2 : Nat) : Int)) ∧ ∃ m, w' = w.drewN m := by
  have c1 := hI.c 1
  have hl : getW (s.r 1) 11 2 < 4 := by
    unfold getW; rw [if_pos (by decide)]; exact Nat.mod_lt _ (by decide)
  have e1 : wrap64 ((getW (s.r 1) 11 2 : Nat) : Int) = ((getW (s.r 1) 11 2 : Nat) : Int) := by unfold wrap64; omega
  go_enter Try.func49, Try.ntmps49
  go_wp2_with (go_at_call 32; refine (get_c _ _ _ _ (hs 1)).mono ?_; rintro e w' ⟨rfl, m, rfl⟩)
  go_ret
  exact ⟨rfl, (by first | exact ⟨_, rfl⟩ | exact ⟨0, rfl⟩)⟩
def keepW (s : VS) (m : Nat) : VS := s.set 1 (putW (s.r 1) 11 2 m)
theorem zeroF (W : World) : (zeroValue FT).run Try.prog W = .ok (.agg (VS.mk 0 fun _ => 0).cells) W := by kernel_rfl
theorem infoF : (Try.prog.info? FT).map (·.size) = some 23 := by kernel_rfl
def vs0 : VS := ⟨3, fun _ => 0⟩
theorem vs0_ok : vs0.ok := fun _ => ⟨by show 0 < _; decide⟩
set_option maxHeartbeats 8000000 in
set_option maxRecDepth 100000 in
theorem begin_c (w : World) :
    Calls Try.prog 41 #[] w fun e w' => e = .returned (.agg vs0.cells) ∧ Kp w w' (fun _ => False) := by
  go_enter Try.func41, Try.ntmps41
  go_wp2_with (first
    | ((with_reducible refine gate_dst (N := 0) rfl ?_); refine al_ev rfl rfl (N := 0) rfl _ (zeroF _) ?_; intro g hg w1 hb1 hk1; have Hg := Aside0.mk hg; clear hg)
    | ((with_reducible refine gate_store (t := 54) (p := 0) rfl ?_); refine st_ev rfl rfl rfl g vs0.cells _ _ rfl rfl hb1 infoF rfl (VS.one _) ?_; intro w2 hb2 hk2))
  refine bodyPost_ret (results_cell_row rfl _ _ g FT vs0.cells (0, 0) _ rfl hb2 Try.underlying54 rfl infoF) rfl ?_
  exact ⟨rfl, hk1.then hk2 fun k hk (e : k = g) => by have := Hg.out; omega⟩
def knownW (n : Int) : Bool := decide (placeW n ≠ 0) || decide (n = 768 ∨ n = 256 ∨ n = 769 ∨ n = 836 ∨ n = 324 ∨ n = 260 ∨ n = 3857 ∨ n = 3858 ∨ n = 3859 ∨ n = 3860)
end Go.Proofs.Ytlhdildnekllhaa.H
