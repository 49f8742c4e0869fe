/- The hart's registers (package csr), walked by hand: who may, names; the page's example. -/
import Derived.Test.YtkbnoeebnmphbaaHcsr3
namespace Go.Proofs.Ytkbnoeebnmphbaa.H
open Go.RowKit Go.Proofs.YtkbnoeebnmphbaaW.PrintWords Go.Proofs.YtkbnoeebnmphbaaW.PrintLast Go.Proofs.Ytkbnoeebnmphbaa.PAl Go.Proofs.Ytkbnoeebnmphbaa.Pure Go.Proofs.Ytkbnoeebnmphbaa.Vw
set_option linter.unusedVariables false
set_option linter.unusedSimpArgs false
theorem statusW_m (s : VS) (x k : Nat) : (statusW s x k).m = s.m := by unfold statusW; split <;> rfl
theorem writeW_m (s : VS) (n : Int) (x : Nat) : (writeW s n x).m = s.m := by
  unfold writeW; repeat' split
  all_goals first | exact statusW_m _ _ _ | rfl
theorem write_l (g : Nat) (s : VS) (n : Int) (k : Nat) (w : World) (hI : St FT w g s) (hs : s.ok) (hk : k < 18446744073709551616) :
    Calls Try.prog 15 #[.pointer (some ⟨g, 0, none⟩), .int .i64 n, .int .u64 (@OfNat.ofNat Int k instOfNat)] w fun e w' => e = .returned (.tuple #[]) ∧ St FT w' g (writeW s n k) ∧ KpG w w' g :=
  write_c g s n k w hI hs ⟨hk⟩
def awakeS : VS := writeW (writeW (writeW vs0 773 8) 773 6) 833 7
theorem awakeS_ok : awakeS.ok := writeW_ok (writeW_ok (writeW_ok vs0_ok 773 U.num) 773 U.num) 833 U.num
theorem awake1 : readW awakeS 773 = 8 := by decide +kernel
theorem awake2 : readW awakeS 833 = 4 := by decide +kernel
theorem awake3 : knownW 769 = true := by decide +kernel
theorem awakeM : awakeS.m = 3 := by unfold awakeS; rw [writeW_m, writeW_m, writeW_m]; rfl
set_option maxHeartbeats 8000000 in
set_option maxRecDepth 100000 in
theorem awake_c (w : World) :
    Calls Try.prog 10 #[] w fun e w' => e = .returned (.bool true) ∧ Kp w w' (fun _ => False) := by
  go_enter Try.func10, Try.ntmps10
  go_wp2_with (first
    | (go_at_call 28; refine (begin_c _).mono ?_; rintro e w1 ⟨rfl, hk1⟩)
    | ((with_reducible refine gate_dst (N := 1) rfl ?_); refine al_ev rfl rfl (N := 1) rfl _ (zeroF _) ?_; intro g hg w2 hb2 hk2; have Hg := Aside0.mk hg; clear hg)
    | ((with_reducible refine gate_store (t := 35) (p := 1) rfl ?_); refine st_ev rfl rfl rfl g vs0.cells _ _ rfl rfl hb2 infoF rfl (VS.one _) ?_; intro w3 hb3 hk3))
  refine (write_l g vs0 773 8 w3 ⟨hb3⟩ vs0_ok (by decide)).mono ?_
  rintro e w4 ⟨rfl, hS4, hk4⟩
  go_wp2_with (fail)
  refine (write_l g _ 773 6 w4 hS4 (writeW_ok vs0_ok _ U.num) (by decide)).mono ?_
  rintro e w5 ⟨rfl, hS5, hk5⟩
  go_wp2_with (fail)
  refine (write_l g _ 833 7 w5 hS5 (writeW_ok (writeW_ok vs0_ok _ U.num) _ U.num) (by decide)).mono ?_
  rintro e w6 ⟨rfl, hS6, hk6⟩
  have hI : St FT w6 g awakeS := hS6
  clear hS6 hS5 hS4
  have c0 := hI.c0
  rw [awakeM] at c0
  have Hk : Aside0 (Kp w w6 (fun _ => False)) := ⟨by
    have hlt : ∀ i, i < w.heap.size → i ≠ g := fun i hi e => by have := Hg.out; have := hk1.size; omega
    exact ((((((hk1.then hk2 fun _ _ h => h).then hk3 fun i hi e => hlt i hi e).then hk4 fun i hi e => hlt i hi e).then hk5 fun i hi e => hlt i hi e).then hk6 fun i hi e => hlt i hi e))⟩
  clear hk1 hk2 hk3 hk4 hk5 hk6 hb2 hb3
  have r1 : ∀ w, St FT w g awakeS → Calls Try.prog 16 #[.pointer (some ⟨g, 0, none⟩), .int .i64 773] w fun e w' => e = .returned (.int .u64 8) ∧ ∃ m, w' = w.drewN m := fun w h => by
    have := read_c g awakeS 773 w h awakeS_ok; rw [awake1] at this; exact this
  have r2 : ∀ w, St FT w g awakeS → Calls Try.prog 16 #[.pointer (some ⟨g, 0, none⟩), .int .i64 833] w fun e w' => e = .returned (.int .u64 4) ∧ ∃ m, w' = w.drewN m := fun w h => by
    have := read_c g awakeS 833 w h awakeS_ok; rw [awake2] at this; exact this
  have r3 : ∀ w, Calls Try.prog 26 #[.int .i64 769] w fun e w' => e = .returned (.bool true) ∧ Kp w w' (fun _ => False) := fun w => by
    have := known_c 769 w; rw [awake3] at this; exact this
  have R1 := Aside0.mk r1
  have R2 := Aside0.mk r2
  have R3 := Aside0.mk r3
  clear r1 r2 r3
  go_wp2_with (fail)
  refine (R1.out _ hI).mono ?_
  rintro e w7 ⟨rfl, m7, rfl⟩
  go_wp2_with (fail)
  refine (R2.out _ (hI.drewN _)).mono ?_
  rintro e w8 ⟨rfl, m8, rfl⟩
  go_wp2_with (fail)
  refine (R3.out _).mono ?_
  rintro e w9 ⟨rfl, hk9⟩
  go_wp2
  go_ret
  exact ⟨rfl, (Hk.out.drewN _).then hk9 fun _ _ h => h⟩
end Go.Proofs.Ytkbnoeebnmphbaa.H
