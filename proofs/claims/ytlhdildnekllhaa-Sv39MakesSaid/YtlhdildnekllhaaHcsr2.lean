/- The hart's registers (package csr), walked by hand: the methods that write, and who may. -/
import Derived.Test.YtlhdildnekllhaaHcsr
namespace Go.Proofs.Ytlhdildnekllhaa.H
open Go.RowKit Go.Proofs.YtlhdildnekllhaaW.PrintWords Go.Proofs.YtlhdildnekllhaaW.PrintLast Go.Proofs.Ytlhdildnekllhaa.PAl Go.Proofs.Ytlhdildnekllhaa.Pure Go.Proofs.Ytlhdildnekllhaa.Vw
set_option linter.unusedVariables false
set_option linter.unusedSimpArgs false
abbrev KpG (w w' : World) (g : Nat) : Prop := Kp w w' (fun i => i = g)
theorem beq_no {n k : Int} (h : n ≠ k) : (n == k) = false := beq_eq_false_iff_ne.2 h
theorem status_l (g : Nat) (s : VS) (x n : Nat) (w : World) (hI : St FT w g s) (hs : s.ok) (hx : U x) (hm : n < 18446744073709551616) :
    Calls Try.prog 67 #[.pointer (some ⟨g, 0, none⟩), .int .u64 (x : Int), .int .u64 (@OfNat.ofNat Int n instOfNat)] w fun e w' => e = .returned (.tuple #[]) ∧ St FT w' g (statusW s x n) ∧ Kp w w' (fun i => i = g) :=
  status_c g s x n w hI hs hx ⟨hm⟩
def ownW (s : VS) : Nat := s.r 3 &&& 2
def writeW (s : VS) (n : Int) (x : Nat) : VS :=
  if n = 768 then statusW s x 8264106 else if n = 256 then statusW s x 786722 else if n = 836 then s.set 5 (x &&& 546)
  else if n = 324 then s.set 5 (minus (s.r 5) (ownW s) ||| (x &&& ownW s)) else if n = 260 then s.set 4 (minus (s.r 4) (s.r 3) ||| (x &&& s.r 3))
  else if n = 3072 ∨ n = 3073 ∨ n = 3074 then s else if placeW n = 0 then s else s.set (placeW n) (legalW n (s.r (placeW n)) x)
theorem writeW_ok {s : VS} (h : s.ok) (n : Int) {x : Nat} (hx : U x) : (writeW s n x).ok := by
  unfold writeW; repeat' split
  · exact statusW_ok h hx _
  · exact statusW_ok h hx _
  · exact VS.set_ok h _ hx.and
  · exact VS.set_ok h _ ((h 5).minus.or hx.and)
  · exact VS.set_ok h _ ((h 4).minus.or hx.and)
  · exact h
  · exact h
  · exact VS.set_ok h _ (legalW_ok n (h _) hx)
set_option maxHeartbeats 8000000 in
set_option maxRecDepth 100000 in
theorem write_c1 (g : Nat) (s : VS) (x : Nat) (w : World) (hI : St FT w g s) (hs : s.ok) (hx : U x) :
    Calls Try.prog 42 #[.pointer (some ⟨g, 0, none⟩), .int .i64 768, .int .u64 (x : Int)] w fun e w' => e = .returned (.tuple #[]) ∧ St FT w' g (writeW s 768 x) ∧ KpG w w' g := by
  go_enter Try.func42, Try.ntmps42
  go_wp2_with (go_at_call 67; refine (status_l _ s _ _ _ hI hs hx (by decide)).mono ?_; rintro e w' ⟨rfl, hS, hK⟩)
  first | go_end0 | ((try simp only [Exit.inBlock, Exit.then]); refine bodyPost_ret (results_none rfl _ _ _) rfl ?_)
  exact ⟨rfl, hS, hK⟩
set_option maxHeartbeats 8000000 in
set_option maxRecDepth 100000 in
theorem write_c2 (g : Nat) (s : VS) (x : Nat) (w : World) (hI : St FT w g s) (hs : s.ok) (hx : U x) :
    Calls Try.prog 42 #[.pointer (some ⟨g, 0, none⟩), .int .i64 256, .int .u64 (x : Int)] w fun e w' => e = .returned (.tuple #[]) ∧ St FT w' g (writeW s 256 x) ∧ KpG w w' g := by
  go_enter Try.func42, Try.ntmps42
  go_wp2_with (go_at_call 67; refine (status_l _ s _ _ _ hI hs hx (by decide)).mono ?_; rintro e w' ⟨rfl, hS, hK⟩)
  first | go_end0 | ((try simp only [Exit.inBlock, Exit.then]); refine bodyPost_ret (results_none rfl _ _ _) rfl ?_)
  exact ⟨rfl, hS, hK⟩
set_option maxHeartbeats 8000000 in
set_option maxRecDepth 100000 in
theorem write_c3 (g : Nat) (s : VS) (x : Nat) (w : World) (hI : St FT w g s) (hs : s.ok) (hx : U x) :
    Calls Try.prog 42 #[.pointer (some ⟨g, 0, none⟩), .int .i64 836, .int .u64 (x : Int)] w fun e w' => e = .returned (.tuple #[]) ∧ St FT w' g (writeW s 836 x) ∧ KpG w w' g := by
  have f5 := hI.f 5
  have c5 := hI.c 5
  have e1 : Go.bits .and .u64 (x : Int) 546 = ((x &&& 546 : Nat) : Int) := and_l hx
  go_enter Try.func42, Try.ntmps42
  go_wp2
  repeat (go_region; try go_wp2)
  first | go_end0 | ((try simp only [Exit.inBlock, Exit.then]); refine bodyPost_ret (results_none rfl _ _ _) rfl ?_)
  exact ⟨rfl, (by repeat (first | with_reducible exact hI | apply St.drewN | apply St.drew | apply St.alloc | refine St.set0 ?_ _ | refine St.set ?_ _ _)), (by repeat (first | with_reducible exact Kp.refl _ _ | apply Kp.drewN | apply Kp.drew | apply Kp.alloc | refine Kp.setCell ?_ (by first | exact .inl rfl | omega) _))⟩
set_option maxHeartbeats 8000000 in
set_option maxRecDepth 100000 in
theorem write_c4 (g : Nat) (s : VS) (x : Nat) (w : World) (hI : St FT w g s) (hs : s.ok) (hx : U x) :
    Calls Try.prog 42 #[.pointer (some ⟨g, 0, none⟩), .int .i64 324, .int .u64 (x : Int)] w fun e w' => e = .returned (.tuple #[]) ∧ St FT w' g (writeW s 324 x) ∧ KpG w w' g := by
  have f5 := hI.f 5
  have c5 := hI.c 5
  have c3 := hI.c 3
  have ho : U (ownW s) := (hs 3).and
  have e0 : Go.bits .and .u64 (s.r 3 : Int) 2 = ((ownW s : Nat) : Int) := and_l (hs 3)
  have e1 : Go.bits .andNot .u64 (s.r 5 : Int) ((ownW s : Nat) : Int) = ((minus (s.r 5) (ownW s) : Nat) : Int) := minus_c (hs 5) ho
  have e2 : Go.bits .and .u64 (x : Int) ((ownW s : Nat) : Int) = ((x &&& ownW s : Nat) : Int) := and_c hx ho
  have e3 := or_c (x := minus (s.r 5) (ownW s)) (y := x &&& ownW s) (hs 5).minus hx.and
  go_enter Try.func42, Try.ntmps42
  go_wp2
  repeat (go_region; try go_wp2)
  first | go_end0 | ((try simp only [Exit.inBlock, Exit.then]); refine bodyPost_ret (results_none rfl _ _ _) rfl ?_)
  exact ⟨rfl, (by repeat (first | with_reducible exact hI | apply St.drewN | apply St.drew | apply St.alloc | refine St.set0 ?_ _ | refine St.set ?_ _ _)), (by repeat (first | with_reducible exact Kp.refl _ _ | apply Kp.drewN | apply Kp.drew | apply Kp.alloc | refine Kp.setCell ?_ (by first | exact .inl rfl | omega) _))⟩
set_option maxHeartbeats 8000000 in
set_option maxRecDepth 100000 in
theorem write_c5 (g : Nat) (s : VS) (x : Nat) (w : World) (hI : St FT w g s) (hs : s.ok) (hx : U x) :
    Calls Try.prog 42 #[.pointer (some ⟨g, 0, none⟩), .int .i64 260, .int .u64 (x : Int)] w fun e w' => e = .returned (.tuple #[]) ∧ St FT w' g (writeW s 260 x) ∧ KpG w w' g := by
  have f4 := hI.f 4
  have c4 := hI.c 4
  have c3 := hI.c 3
  have e1 : Go.bits .andNot .u64 (s.r 4 : Int) (s.r 3 : Int) = ((minus (s.r 4) (s.r 3) : Nat) : Int) := minus_c (hs 4) (hs 3)
  have e2 : Go.bits .and .u64 (x : Int) (s.r 3 : Int) = ((x &&& s.r 3 : Nat) : Int) := and_c hx (hs 3)
  have e3 := or_c (x := minus (s.r 4) (s.r 3)) (y := x &&& s.r 3) (hs 4).minus hx.and
  go_enter Try.func42, Try.ntmps42
  go_wp2
  repeat (go_region; try go_wp2)
  first | go_end0 | ((try simp only [Exit.inBlock, Exit.then]); refine bodyPost_ret (results_none rfl _ _ _) rfl ?_)
  exact ⟨rfl, (by repeat (first | with_reducible exact hI | apply St.drewN | apply St.drew | apply St.alloc | refine St.set0 ?_ _ | refine St.set ?_ _ _)), (by repeat (first | with_reducible exact Kp.refl _ _ | apply Kp.drewN | apply Kp.drew | apply Kp.alloc | refine Kp.setCell ?_ (by first | exact .inl rfl | omega) _))⟩
set_option maxHeartbeats 8000000 in
set_option maxRecDepth 100000 in
theorem write_c6 (g : Nat) (s : VS) (n : Int) (x : Nat) (w : World) (hI : St FT w g s) (hn : n = 3072 ∨ n = 3073 ∨ n = 3074) :
    Calls Try.prog 42 #[.pointer (some ⟨g, 0, none⟩), .int .i64 n, .int .u64 (x : Int)] w fun e w' => e = .returned (.tuple #[]) ∧ St FT w' g (writeW s n x) ∧ KpG w w' g := by
  rcases hn with rfl | rfl | rfl
  all_goals
    go_enter Try.func42, Try.ntmps42
    go_wp2
    first | go_end0 | ((try simp only [Exit.inBlock, Exit.then]); refine bodyPost_ret (results_none rfl _ _ _) rfl ?_)
    exact ⟨rfl, by rw [show writeW s _ x = s from rfl]; exact hI, Kp.refl _ _⟩
set_option maxHeartbeats 8000000 in
set_option maxRecDepth 100000 in
theorem write_c7 (g : Nat) (s : VS) (n : Int) (x : Nat) (w : World) (hI : St FT w g s) (hs : s.ok) (hx : U x) (h1 : n ≠ 768) (h2 : n ≠ 256) (h3 : n ≠ 836) (h4 : n ≠ 324) (h5 : n ≠ 260) (h6 : ¬ (n = 3072 ∨ n = 3073 ∨ n = 3074)) :
    Calls Try.prog 42 #[.pointer (some ⟨g, 0, none⟩), .int .i64 n, .int .u64 (x : Int)] w fun e w' => e = .returned (.tuple #[]) ∧ St FT w' g (writeW s n x) ∧ KpG w w' g := by
  have b1 := beq_no h1
  have b2 := beq_no h2
  have b3 := beq_no h3
  have b4 := beq_no h4
  have b5 := beq_no h5
  have b6 := beq_no (show n ≠ 3072 from fun e => h6 (.inl e))
  have b7 := beq_no (show n ≠ 3073 from fun e => h6 (.inr (.inl e)))
  have b8 := beq_no (show n ≠ 3074 from fun e => h6 (.inr (.inr e)))
  have HW : Aside0 (writeW s n x = if placeW n = 0 then s else s.set (placeW n) (legalW n (s.r (placeW n)) x)) := ⟨by
    unfold writeW; rw [if_neg h1, if_neg h2, if_neg h3, if_neg h4, if_neg h5, if_neg h6]⟩
  clear h1 h2 h3 h4 h5 h6
  by_cases hp : placeW n = 0
  · go_enter Try.func42, Try.ntmps42
    go_wp2_with (go_at_call 68; refine (place_nil _ _ _ hp).mono ?_; rintro e w' ⟨rfl, rfl⟩)
    first | go_end0 | ((try simp only [Exit.inBlock, Exit.then]); refine bodyPost_ret (results_none rfl _ _ _) rfl ?_)
    exact ⟨rfl, by rw [HW.out, if_pos hp]; exact hI, Kp.refl _ _⟩
  · obtain ⟨p, hpe⟩ : ∃ p, placeW n = p := ⟨_, rfl⟩
    have hp1 : 1 ≤ p := by omega
    have hp2 : p ≤ 22 := by have := placeW_le n; omega
    have cp := hI.c p hp1 hp2
    have fp := hI.f p
    have Hpe := Aside0.mk hpe
    clear hpe hp
    go_enter Try.func42, Try.ntmps42
    go_wp2_with (first | (go_at_call 68; refine (place_some _ _ _ p Hpe.out hp1).mono ?_; rintro e w' ⟨rfl, rfl⟩) | (go_at_call 69; refine (legal_c _ _ _ _ hx).mono ?_; rintro e w' ⟨rfl, m, rfl⟩))
    first | go_end0 | ((try simp only [Exit.inBlock, Exit.then]); refine bodyPost_ret (results_none rfl _ _ _) rfl ?_)
    exact ⟨rfl, by rw [HW.out, Hpe.out, if_neg (by omega)]; exact (hI.drewN m).set p _ hp1 hp2, (by repeat (first | with_reducible exact Kp.refl _ _ | apply Kp.drewN | apply Kp.drew | apply Kp.alloc | refine Kp.setCell ?_ (by first | exact .inl rfl | omega) _))⟩
theorem write_c (g : Nat) (s : VS) (n : Int) (x : Nat) (w : World) (hI : St FT w g s) (hs : s.ok) (hx : U x) :
    Calls Try.prog 42 #[.pointer (some ⟨g, 0, none⟩), .int .i64 n, .int .u64 (x : Int)] w fun e w' => e = .returned (.tuple #[]) ∧ St FT w' g (writeW s n x) ∧ KpG w w' g := by
  by_cases h1 : n = 768
  · subst h1; exact write_c1 g s x w hI hs hx
  by_cases h2 : n = 256
  · subst h2; exact write_c2 g s x w hI hs hx
  by_cases h3 : n = 836
  · subst h3; exact write_c3 g s x w hI hs hx
  by_cases h4 : n = 324
  · subst h4; exact write_c4 g s x w hI hs hx
  by_cases h5 : n = 260
  · subst h5; exact write_c5 g s x w hI hs hx
  by_cases h6 : n = 3072 ∨ n = 3073 ∨ n = 3074
  · exact write_c6 g s n x w hI h6
  · exact write_c7 g s n x w hI hs hx h1 h2 h3 h4 h5 h6
end Go.Proofs.Ytlhdildnekllhaa.H
