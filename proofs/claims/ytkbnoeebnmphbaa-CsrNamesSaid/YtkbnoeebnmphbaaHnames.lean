/- CsrNames, walked by hand. -/
import Derived.Test.YtkbnoeebnmphbaaHname
namespace Go.Proofs.Ytkbnoeebnmphbaa.H
open Go.RowKit Go.Proofs.YtkbnoeebnmphbaaW.PrintWords Go.Proofs.YtkbnoeebnmphbaaW.PrintLast Go.Proofs.Ytkbnoeebnmphbaa.PAl Go.Proofs.Ytkbnoeebnmphbaa.Pure Go.Proofs.Ytkbnoeebnmphbaa.Vw
set_option linter.unusedVariables false
set_option linter.unusedSimpArgs false
open Go.Sort
set_option maxHeartbeats 8000000 in
set_option maxRecDepth 100000 in
theorem names_c (n : Int) (w : World) :
    Calls Try.prog 9 #[.int .i64 n] w fun e w' => e = .returned (.bool true) ∧ Below w.heap.size w w' := by
  obtain ⟨q0, nm, q2, q3, hof⟩ : ∃ q0 nm q2 q3, ofR n = (q0, nm, q2, q3, knownW n) := ⟨_, _, _, _, by rw [← known_of n]⟩
  obtain ⟨kk, hkk⟩ : ∃ kk, knownW n = kk := ⟨_, rfl⟩
  rw [hkk] at hof
  have OF : Aside0 (∀ w, Calls Try.prog 25 #[.int .i64 n] w fun e w' => e = .returned (.tuple #[.agg #[.int .i64 q0, .string nm, .int .i64 q2, .int .u64 q3], .bool kk]) ∧ KpN w w') := ⟨fun w => by have := of_c n w; rw [hof] at this; exact this⟩
  have KN : Aside0 (∀ w, Calls Try.prog 26 #[.int .i64 n] w fun e w' => e = .returned (.bool kk) ∧ KpN w w') := ⟨fun w => by have := known_c n w; rw [hkk] at this; exact this⟩
  have NM : Aside0 (∀ w, Calls Try.prog 27 #[.int .i64 n] w fun e w' => e = .returned (.string nm) ∧ KpN w w') := ⟨fun w => by have := name_c n w; rw [hof] at this; exact this⟩
  clear hof hkk
  go_enter Try.func9, Try.ntmps9
  go_wp2_with (first
    | (go_at_call 10; refine (awake_c _).mono ?_; rintro e w1 ⟨rfl, k1⟩)
    | (go_at_call 25; refine (OF.out _).mono ?_; rintro e w2 ⟨rfl, k2⟩))
  obtain ⟨g, hg⟩ : ∃ g, w2.heap.size = g := ⟨_, rfl⟩
  obtain ⟨wa, hwa⟩ : ∃ wa, w2.alloc (.cells #[.int .i64 q0, .string nm, .int .i64 q2, .int .u64 q3] 28) = wa := ⟨_, rfl⟩
  have ca : wa.cell? ⟨g, 1, none⟩ = some (.string nm) := by rw [← hwa, ← hg]; exact (World.cell?_alloc_new _ _ _ 1).trans rfl
  have Ka : KpN w wa := by rw [← hwa]; exact (k1.trans k2).trans ((Kp.refl _ _).alloc _)
  rw [hwa, hg]
  clear hwa hg
  have cQ1 : ∀ d os, Calls Try.prog 26 #[.int .i64 n] (grow (redrawn wa d) os) fun e w'' => e = .returned (.bool kk) ∧ ∃ p : Regrown, w'' = grow (redrawn wa p.d) p.os := fun d os => Calls.regrown_of ((KN.out _).mono fun _ _ h => ⟨h.1, h.2.below (fun _ _ h => h.elim) (Nat.le_refl _)⟩)
  have cQ2 : ∀ d os, Calls Try.prog 27 #[.int .i64 n] (grow (redrawn wa d) os) fun e w'' => e = .returned (.string nm) ∧ ∃ p : Regrown, w'' = grow (redrawn wa p.d) p.os := fun d os => Calls.regrown_of ((NM.out _).mono fun _ _ h => ⟨h.1, h.2.below (fun _ _ h => h.elim) (Nat.le_refl _)⟩)
  have kc := cell_regrown ca
  clear ca
  refine wp_region_quiet_below (by kernel_rfl) (by kernel_rfl) ?_
  repeat (quiet_step (first | with_reducible exact cQ1 _ _ | with_reducible exact cQ2 _ _))
  refine wpQuiet_nil ?_
  intro _ hw'
  obtain ⟨⟨dq, osq⟩, hw''⟩ := hw'
  subst hw''
  go_wp2
  go_ret
  exact ⟨rfl, (Ka.trans (Kp.of_below (below_regrown wa dq osq) _)).below (fun _ _ h => h.elim) (Nat.le_refl _)⟩
end Go.Proofs.Ytkbnoeebnmphbaa.H
