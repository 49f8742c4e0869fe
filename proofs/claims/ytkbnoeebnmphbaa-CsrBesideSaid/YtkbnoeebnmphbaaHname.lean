/- The registers' names (csr.Name), walked by hand, number by number (printed by a small program). -/
import Derived.Test.YtkbnoeebnmphbaaHmay3
import Derived.Lib.QuietBelow
namespace Go.Proofs.Ytkbnoeebnmphbaa.H
open Go.RowKit Go.Proofs.YtkbnoeebnmphbaaW.PrintWords Go.Proofs.YtkbnoeebnmphbaaW.PrintLast Go.Proofs.Ytkbnoeebnmphbaa.PAl Go.Proofs.Ytkbnoeebnmphbaa.Pure Go.Proofs.Ytkbnoeebnmphbaa.Vw
set_option linter.unusedVariables false
set_option linter.unusedSimpArgs false
set_option maxHeartbeats 8000000 in
set_option maxRecDepth 100000 in
theorem name_768 (w : World) :
    Calls Try.prog 27 #[.int .i64 768] w fun e w' => e = .returned (.string (ofR 768).2.1) ∧ KpN w w' := by
  have Kc : Aside0 (∀ w, Calls Try.prog 26 #[.int .i64 768] w fun e w' => e = .returned (.bool true) ∧ KpN w w') := ⟨fun w => by have := known_c 768 w; rw [show knownW 768 = true by decide +kernel] at this; exact this⟩
  go_enter Try.func27, Try.ntmps27
  go_wp2_with (go_at_call 26; refine (Kc.out _).mono ?_; rintro e w1 ⟨rfl, k1⟩)
  go_ret
  exact ⟨rfl, k1⟩
set_option maxHeartbeats 8000000 in
set_option maxRecDepth 100000 in
theorem name_256 (w : World) :
    Calls Try.prog 27 #[.int .i64 256] w fun e w' => e = .returned (.string (ofR 256).2.1) ∧ KpN w w' := by
  have Kc : Aside0 (∀ w, Calls Try.prog 26 #[.int .i64 256] w fun e w' => e = .returned (.bool true) ∧ KpN w w') := ⟨fun w => by have := known_c 256 w; rw [show knownW 256 = true by decide +kernel] at this; exact this⟩
  go_enter Try.func27, Try.ntmps27
  go_wp2_with (go_at_call 26; refine (Kc.out _).mono ?_; rintro e w1 ⟨rfl, k1⟩)
  go_ret
  exact ⟨rfl, k1⟩
set_option maxHeartbeats 8000000 in
set_option maxRecDepth 100000 in
theorem name_769 (w : World) :
    Calls Try.prog 27 #[.int .i64 769] w fun e w' => e = .returned (.string (ofR 769).2.1) ∧ KpN w w' := by
  have Kc : Aside0 (∀ w, Calls Try.prog 26 #[.int .i64 769] w fun e w' => e = .returned (.bool true) ∧ KpN w w') := ⟨fun w => by have := known_c 769 w; rw [show knownW 769 = true by decide +kernel] at this; exact this⟩
  go_enter Try.func27, Try.ntmps27
  go_wp2_with (go_at_call 26; refine (Kc.out _).mono ?_; rintro e w1 ⟨rfl, k1⟩)
  go_ret
  exact ⟨rfl, k1⟩
set_option maxHeartbeats 8000000 in
set_option maxRecDepth 100000 in
theorem name_770 (w : World) :
    Calls Try.prog 27 #[.int .i64 770] w fun e w' => e = .returned (.string (ofR 770).2.1) ∧ KpN w w' := by
  have Kc : Aside0 (∀ w, Calls Try.prog 26 #[.int .i64 770] w fun e w' => e = .returned (.bool true) ∧ KpN w w') := ⟨fun w => by have := known_c 770 w; rw [show knownW 770 = true by decide +kernel] at this; exact this⟩
  go_enter Try.func27, Try.ntmps27
  go_wp2_with (go_at_call 26; refine (Kc.out _).mono ?_; rintro e w1 ⟨rfl, k1⟩)
  go_ret
  exact ⟨rfl, k1⟩
set_option maxHeartbeats 8000000 in
set_option maxRecDepth 100000 in
theorem name_771 (w : World) :
    Calls Try.prog 27 #[.int .i64 771] w fun e w' => e = .returned (.string (ofR 771).2.1) ∧ KpN w w' := by
  have Kc : Aside0 (∀ w, Calls Try.prog 26 #[.int .i64 771] w fun e w' => e = .returned (.bool true) ∧ KpN w w') := ⟨fun w => by have := known_c 771 w; rw [show knownW 771 = true by decide +kernel] at this; exact this⟩
  go_enter Try.func27, Try.ntmps27
  go_wp2_with (go_at_call 26; refine (Kc.out _).mono ?_; rintro e w1 ⟨rfl, k1⟩)
  go_ret
  exact ⟨rfl, k1⟩
set_option maxHeartbeats 8000000 in
set_option maxRecDepth 100000 in
theorem name_772 (w : World) :
    Calls Try.prog 27 #[.int .i64 772] w fun e w' => e = .returned (.string (ofR 772).2.1) ∧ KpN w w' := by
  have Kc : Aside0 (∀ w, Calls Try.prog 26 #[.int .i64 772] w fun e w' => e = .returned (.bool true) ∧ KpN w w') := ⟨fun w => by have := known_c 772 w; rw [show knownW 772 = true by decide +kernel] at this; exact this⟩
  go_enter Try.func27, Try.ntmps27
  go_wp2_with (go_at_call 26; refine (Kc.out _).mono ?_; rintro e w1 ⟨rfl, k1⟩)
  go_ret
  exact ⟨rfl, k1⟩
set_option maxHeartbeats 8000000 in
set_option maxRecDepth 100000 in
theorem rest_260 (w : World) :
    Calls Try.prog 43 #[.int .i64 260] w fun e w' => e = .returned (.string (ofR 260).2.1) ∧ KpN w w' := by
  go_enter Try.func43, Try.ntmps43
  go_wp2
  go_ret
  exact ⟨rfl, Kp.refl _ _⟩
set_option maxHeartbeats 8000000 in
set_option maxRecDepth 100000 in
theorem name_260 (w : World) :
    Calls Try.prog 27 #[.int .i64 260] w fun e w' => e = .returned (.string (ofR 260).2.1) ∧ KpN w w' := by
  have Kc : Aside0 (∀ w, Calls Try.prog 26 #[.int .i64 260] w fun e w' => e = .returned (.bool true) ∧ KpN w w') := ⟨fun w => by have := known_c 260 w; rw [show knownW 260 = true by decide +kernel] at this; exact this⟩
  go_enter Try.func27, Try.ntmps27
  go_wp2_with (first | (go_at_call 26; refine (Kc.out _).mono ?_; rintro e w1 ⟨rfl, k1⟩) | (go_at_call 43; refine (rest_260 _).mono ?_; rintro e w2 ⟨rfl, k2⟩))
  go_ret
  exact ⟨rfl, k1.trans k2⟩
set_option maxHeartbeats 8000000 in
set_option maxRecDepth 100000 in
theorem name_836 (w : World) :
    Calls Try.prog 27 #[.int .i64 836] w fun e w' => e = .returned (.string (ofR 836).2.1) ∧ KpN w w' := by
  have Kc : Aside0 (∀ w, Calls Try.prog 26 #[.int .i64 836] w fun e w' => e = .returned (.bool true) ∧ KpN w w') := ⟨fun w => by have := known_c 836 w; rw [show knownW 836 = true by decide +kernel] at this; exact this⟩
  go_enter Try.func27, Try.ntmps27
  go_wp2_with (go_at_call 26; refine (Kc.out _).mono ?_; rintro e w1 ⟨rfl, k1⟩)
  go_ret
  exact ⟨rfl, k1⟩
set_option maxHeartbeats 8000000 in
set_option maxRecDepth 100000 in
theorem rest_324 (w : World) :
    Calls Try.prog 43 #[.int .i64 324] w fun e w' => e = .returned (.string (ofR 324).2.1) ∧ KpN w w' := by
  go_enter Try.func43, Try.ntmps43
  go_wp2
  go_ret
  exact ⟨rfl, Kp.refl _ _⟩
set_option maxHeartbeats 8000000 in
set_option maxRecDepth 100000 in
theorem name_324 (w : World) :
    Calls Try.prog 27 #[.int .i64 324] w fun e w' => e = .returned (.string (ofR 324).2.1) ∧ KpN w w' := by
  have Kc : Aside0 (∀ w, Calls Try.prog 26 #[.int .i64 324] w fun e w' => e = .returned (.bool true) ∧ KpN w w') := ⟨fun w => by have := known_c 324 w; rw [show knownW 324 = true by decide +kernel] at this; exact this⟩
  go_enter Try.func27, Try.ntmps27
  go_wp2_with (first | (go_at_call 26; refine (Kc.out _).mono ?_; rintro e w1 ⟨rfl, k1⟩) | (go_at_call 43; refine (rest_324 _).mono ?_; rintro e w2 ⟨rfl, k2⟩))
  go_ret
  exact ⟨rfl, k1.trans k2⟩
set_option maxHeartbeats 8000000 in
set_option maxRecDepth 100000 in
theorem name_773 (w : World) :
    Calls Try.prog 27 #[.int .i64 773] w fun e w' => e = .returned (.string (ofR 773).2.1) ∧ KpN w w' := by
  have Kc : Aside0 (∀ w, Calls Try.prog 26 #[.int .i64 773] w fun e w' => e = .returned (.bool true) ∧ KpN w w') := ⟨fun w => by have := known_c 773 w; rw [show knownW 773 = true by decide +kernel] at this; exact this⟩
  go_enter Try.func27, Try.ntmps27
  go_wp2_with (go_at_call 26; refine (Kc.out _).mono ?_; rintro e w1 ⟨rfl, k1⟩)
  go_ret
  exact ⟨rfl, k1⟩
set_option maxHeartbeats 8000000 in
set_option maxRecDepth 100000 in
theorem rest_261 (w : World) :
    Calls Try.prog 43 #[.int .i64 261] w fun e w' => e = .returned (.string (ofR 261).2.1) ∧ KpN w w' := by
  go_enter Try.func43, Try.ntmps43
  go_wp2
  go_ret
  exact ⟨rfl, Kp.refl _ _⟩
set_option maxHeartbeats 8000000 in
set_option maxRecDepth 100000 in
theorem name_261 (w : World) :
    Calls Try.prog 27 #[.int .i64 261] w fun e w' => e = .returned (.string (ofR 261).2.1) ∧ KpN w w' := by
  have Kc : Aside0 (∀ w, Calls Try.prog 26 #[.int .i64 261] w fun e w' => e = .returned (.bool true) ∧ KpN w w') := ⟨fun w => by have := known_c 261 w; rw [show knownW 261 = true by decide +kernel] at this; exact this⟩
  go_enter Try.func27, Try.ntmps27
  go_wp2_with (first | (go_at_call 26; refine (Kc.out _).mono ?_; rintro e w1 ⟨rfl, k1⟩) | (go_at_call 43; refine (rest_261 _).mono ?_; rintro e w2 ⟨rfl, k2⟩))
  go_ret
  exact ⟨rfl, k1.trans k2⟩
set_option maxHeartbeats 8000000 in
set_option maxRecDepth 100000 in
theorem name_774 (w : World) :
    Calls Try.prog 27 #[.int .i64 774] w fun e w' => e = .returned (.string (ofR 774).2.1) ∧ KpN w w' := by
  have Kc : Aside0 (∀ w, Calls Try.prog 26 #[.int .i64 774] w fun e w' => e = .returned (.bool true) ∧ KpN w w') := ⟨fun w => by have := known_c 774 w; rw [show knownW 774 = true by decide +kernel] at this; exact this⟩
  go_enter Try.func27, Try.ntmps27
  go_wp2_with (go_at_call 26; refine (Kc.out _).mono ?_; rintro e w1 ⟨rfl, k1⟩)
  go_ret
  exact ⟨rfl, k1⟩
set_option maxHeartbeats 8000000 in
set_option maxRecDepth 100000 in
theorem rest_262 (w : World) :
    Calls Try.prog 43 #[.int .i64 262] w fun e w' => e = .returned (.string (ofR 262).2.1) ∧ KpN w w' := by
  go_enter Try.func43, Try.ntmps43
  go_wp2
  go_ret
  exact ⟨rfl, Kp.refl _ _⟩
set_option maxHeartbeats 8000000 in
set_option maxRecDepth 100000 in
theorem name_262 (w : World) :
    Calls Try.prog 27 #[.int .i64 262] w fun e w' => e = .returned (.string (ofR 262).2.1) ∧ KpN w w' := by
  have Kc : Aside0 (∀ w, Calls Try.prog 26 #[.int .i64 262] w fun e w' => e = .returned (.bool true) ∧ KpN w w') := ⟨fun w => by have := known_c 262 w; rw [show knownW 262 = true by decide +kernel] at this; exact this⟩
  go_enter Try.func27, Try.ntmps27
  go_wp2_with (first | (go_at_call 26; refine (Kc.out _).mono ?_; rintro e w1 ⟨rfl, k1⟩) | (go_at_call 43; refine (rest_262 _).mono ?_; rintro e w2 ⟨rfl, k2⟩))
  go_ret
  exact ⟨rfl, k1.trans k2⟩
set_option maxHeartbeats 8000000 in
set_option maxRecDepth 100000 in
theorem name_832 (w : World) :
    Calls Try.prog 27 #[.int .i64 832] w fun e w' => e = .returned (.string (ofR 832).2.1) ∧ KpN w w' := by
  have Kc : Aside0 (∀ w, Calls Try.prog 26 #[.int .i64 832] w fun e w' => e = .returned (.bool true) ∧ KpN w w') := ⟨fun w => by have := known_c 832 w; rw [show knownW 832 = true by decide +kernel] at this; exact this⟩
  go_enter Try.func27, Try.ntmps27
  go_wp2_with (go_at_call 26; refine (Kc.out _).mono ?_; rintro e w1 ⟨rfl, k1⟩)
  go_ret
  exact ⟨rfl, k1⟩
set_option maxHeartbeats 8000000 in
set_option maxRecDepth 100000 in
theorem rest_320 (w : World) :
    Calls Try.prog 43 #[.int .i64 320] w fun e w' => e = .returned (.string (ofR 320).2.1) ∧ KpN w w' := by
  go_enter Try.func43, Try.ntmps43
  go_wp2
  go_ret
  exact ⟨rfl, Kp.refl _ _⟩
set_option maxHeartbeats 8000000 in
set_option maxRecDepth 100000 in
theorem name_320 (w : World) :
    Calls Try.prog 27 #[.int .i64 320] w fun e w' => e = .returned (.string (ofR 320).2.1) ∧ KpN w w' := by
  have Kc : Aside0 (∀ w, Calls Try.prog 26 #[.int .i64 320] w fun e w' => e = .returned (.bool true) ∧ KpN w w') := ⟨fun w => by have := known_c 320 w; rw [show knownW 320 = true by decide +kernel] at this; exact this⟩
  go_enter Try.func27, Try.ntmps27
  go_wp2_with (first | (go_at_call 26; refine (Kc.out _).mono ?_; rintro e w1 ⟨rfl, k1⟩) | (go_at_call 43; refine (rest_320 _).mono ?_; rintro e w2 ⟨rfl, k2⟩))
  go_ret
  exact ⟨rfl, k1.trans k2⟩
set_option maxHeartbeats 8000000 in
set_option maxRecDepth 100000 in
theorem name_834 (w : World) :
    Calls Try.prog 27 #[.int .i64 834] w fun e w' => e = .returned (.string (ofR 834).2.1) ∧ KpN w w' := by
  have Kc : Aside0 (∀ w, Calls Try.prog 26 #[.int .i64 834] w fun e w' => e = .returned (.bool true) ∧ KpN w w') := ⟨fun w => by have := known_c 834 w; rw [show knownW 834 = true by decide +kernel] at this; exact this⟩
  go_enter Try.func27, Try.ntmps27
  go_wp2_with (go_at_call 26; refine (Kc.out _).mono ?_; rintro e w1 ⟨rfl, k1⟩)
  go_ret
  exact ⟨rfl, k1⟩
set_option maxHeartbeats 8000000 in
set_option maxRecDepth 100000 in
theorem rest_322 (w : World) :
    Calls Try.prog 43 #[.int .i64 322] w fun e w' => e = .returned (.string (ofR 322).2.1) ∧ KpN w w' := by
  go_enter Try.func43, Try.ntmps43
  go_wp2
  go_ret
  exact ⟨rfl, Kp.refl _ _⟩
set_option maxHeartbeats 8000000 in
set_option maxRecDepth 100000 in
theorem name_322 (w : World) :
    Calls Try.prog 27 #[.int .i64 322] w fun e w' => e = .returned (.string (ofR 322).2.1) ∧ KpN w w' := by
  have Kc : Aside0 (∀ w, Calls Try.prog 26 #[.int .i64 322] w fun e w' => e = .returned (.bool true) ∧ KpN w w') := ⟨fun w => by have := known_c 322 w; rw [show knownW 322 = true by decide +kernel] at this; exact this⟩
  go_enter Try.func27, Try.ntmps27
  go_wp2_with (first | (go_at_call 26; refine (Kc.out _).mono ?_; rintro e w1 ⟨rfl, k1⟩) | (go_at_call 43; refine (rest_322 _).mono ?_; rintro e w2 ⟨rfl, k2⟩))
  go_ret
  exact ⟨rfl, k1.trans k2⟩
set_option maxHeartbeats 8000000 in
set_option maxRecDepth 100000 in
theorem name_835 (w : World) :
    Calls Try.prog 27 #[.int .i64 835] w fun e w' => e = .returned (.string (ofR 835).2.1) ∧ KpN w w' := by
  have Kc : Aside0 (∀ w, Calls Try.prog 26 #[.int .i64 835] w fun e w' => e = .returned (.bool true) ∧ KpN w w') := ⟨fun w => by have := known_c 835 w; rw [show knownW 835 = true by decide +kernel] at this; exact this⟩
  go_enter Try.func27, Try.ntmps27
  go_wp2_with (go_at_call 26; refine (Kc.out _).mono ?_; rintro e w1 ⟨rfl, k1⟩)
  go_ret
  exact ⟨rfl, k1⟩
set_option maxHeartbeats 8000000 in
set_option maxRecDepth 100000 in
theorem rest_323 (w : World) :
    Calls Try.prog 43 #[.int .i64 323] w fun e w' => e = .returned (.string (ofR 323).2.1) ∧ KpN w w' := by
  go_enter Try.func43, Try.ntmps43
  go_wp2
  go_ret
  exact ⟨rfl, Kp.refl _ _⟩
set_option maxHeartbeats 8000000 in
set_option maxRecDepth 100000 in
theorem name_323 (w : World) :
    Calls Try.prog 27 #[.int .i64 323] w fun e w' => e = .returned (.string (ofR 323).2.1) ∧ KpN w w' := by
  have Kc : Aside0 (∀ w, Calls Try.prog 26 #[.int .i64 323] w fun e w' => e = .returned (.bool true) ∧ KpN w w') := ⟨fun w => by have := known_c 323 w; rw [show knownW 323 = true by decide +kernel] at this; exact this⟩
  go_enter Try.func27, Try.ntmps27
  go_wp2_with (first | (go_at_call 26; refine (Kc.out _).mono ?_; rintro e w1 ⟨rfl, k1⟩) | (go_at_call 43; refine (rest_323 _).mono ?_; rintro e w2 ⟨rfl, k2⟩))
  go_ret
  exact ⟨rfl, k1.trans k2⟩
set_option maxHeartbeats 8000000 in
set_option maxRecDepth 100000 in
theorem name_2816 (w : World) :
    Calls Try.prog 27 #[.int .i64 2816] w fun e w' => e = .returned (.string (ofR 2816).2.1) ∧ KpN w w' := by
  have Kc : Aside0 (∀ w, Calls Try.prog 26 #[.int .i64 2816] w fun e w' => e = .returned (.bool true) ∧ KpN w w') := ⟨fun w => by have := known_c 2816 w; rw [show knownW 2816 = true by decide +kernel] at this; exact this⟩
  go_enter Try.func27, Try.ntmps27
  go_wp2_with (go_at_call 26; refine (Kc.out _).mono ?_; rintro e w1 ⟨rfl, k1⟩)
  go_ret
  exact ⟨rfl, k1⟩
set_option maxHeartbeats 8000000 in
set_option maxRecDepth 100000 in
theorem name_2818 (w : World) :
    Calls Try.prog 27 #[.int .i64 2818] w fun e w' => e = .returned (.string (ofR 2818).2.1) ∧ KpN w w' := by
  have Kc : Aside0 (∀ w, Calls Try.prog 26 #[.int .i64 2818] w fun e w' => e = .returned (.bool true) ∧ KpN w w') := ⟨fun w => by have := known_c 2818 w; rw [show knownW 2818 = true by decide +kernel] at this; exact this⟩
  go_enter Try.func27, Try.ntmps27
  go_wp2_with (go_at_call 26; refine (Kc.out _).mono ?_; rintro e w1 ⟨rfl, k1⟩)
  go_ret
  exact ⟨rfl, k1⟩
set_option maxHeartbeats 8000000 in
set_option maxRecDepth 100000 in
theorem name_833 (w : World) :
    Calls Try.prog 27 #[.int .i64 833] w fun e w' => e = .returned (.string (ofR 833).2.1) ∧ KpN w w' := by
  have Kc : Aside0 (∀ w, Calls Try.prog 26 #[.int .i64 833] w fun e w' => e = .returned (.bool true) ∧ KpN w w') := ⟨fun w => by have := known_c 833 w; rw [show knownW 833 = true by decide +kernel] at this; exact this⟩
  go_enter Try.func27, Try.ntmps27
  go_wp2_with (go_at_call 26; refine (Kc.out _).mono ?_; rintro e w1 ⟨rfl, k1⟩)
  go_ret
  exact ⟨rfl, k1⟩
set_option maxHeartbeats 8000000 in
set_option maxRecDepth 100000 in
theorem rest_321 (w : World) :
    Calls Try.prog 43 #[.int .i64 321] w fun e w' => e = .returned (.string (ofR 321).2.1) ∧ KpN w w' := by
  go_enter Try.func43, Try.ntmps43
  go_wp2
  go_ret
  exact ⟨rfl, Kp.refl _ _⟩
set_option maxHeartbeats 8000000 in
set_option maxRecDepth 100000 in
theorem name_321 (w : World) :
    Calls Try.prog 27 #[.int .i64 321] w fun e w' => e = .returned (.string (ofR 321).2.1) ∧ KpN w w' := by
  have Kc : Aside0 (∀ w, Calls Try.prog 26 #[.int .i64 321] w fun e w' => e = .returned (.bool true) ∧ KpN w w') := ⟨fun w => by have := known_c 321 w; rw [show knownW 321 = true by decide +kernel] at this; exact this⟩
  go_enter Try.func27, Try.ntmps27
  go_wp2_with (first | (go_at_call 26; refine (Kc.out _).mono ?_; rintro e w1 ⟨rfl, k1⟩) | (go_at_call 43; refine (rest_321 _).mono ?_; rintro e w2 ⟨rfl, k2⟩))
  go_ret
  exact ⟨rfl, k1.trans k2⟩
set_option maxHeartbeats 8000000 in
set_option maxRecDepth 100000 in
theorem rest_384 (w : World) :
    Calls Try.prog 43 #[.int .i64 384] w fun e w' => e = .returned (.string (ofR 384).2.1) ∧ KpN w w' := by
  go_enter Try.func43, Try.ntmps43
  go_wp2
  go_ret
  exact ⟨rfl, Kp.refl _ _⟩
set_option maxHeartbeats 8000000 in
set_option maxRecDepth 100000 in
theorem name_384 (w : World) :
    Calls Try.prog 27 #[.int .i64 384] w fun e w' => e = .returned (.string (ofR 384).2.1) ∧ KpN w w' := by
  have Kc : Aside0 (∀ w, Calls Try.prog 26 #[.int .i64 384] w fun e w' => e = .returned (.bool true) ∧ KpN w w') := ⟨fun w => by have := known_c 384 w; rw [show knownW 384 = true by decide +kernel] at this; exact this⟩
  go_enter Try.func27, Try.ntmps27
  go_wp2_with (first | (go_at_call 26; refine (Kc.out _).mono ?_; rintro e w1 ⟨rfl, k1⟩) | (go_at_call 43; refine (rest_384 _).mono ?_; rintro e w2 ⟨rfl, k2⟩))
  go_ret
  exact ⟨rfl, k1.trans k2⟩
set_option maxHeartbeats 8000000 in
set_option maxRecDepth 100000 in
theorem rest_3072 (w : World) :
    Calls Try.prog 43 #[.int .i64 3072] w fun e w' => e = .returned (.string (ofR 3072).2.1) ∧ KpN w w' := by
  go_enter Try.func43, Try.ntmps43
  go_wp2
  go_ret
  exact ⟨rfl, Kp.refl _ _⟩
set_option maxHeartbeats 8000000 in
set_option maxRecDepth 100000 in
theorem name_3072 (w : World) :
    Calls Try.prog 27 #[.int .i64 3072] w fun e w' => e = .returned (.string (ofR 3072).2.1) ∧ KpN w w' := by
  have Kc : Aside0 (∀ w, Calls Try.prog 26 #[.int .i64 3072] w fun e w' => e = .returned (.bool true) ∧ KpN w w') := ⟨fun w => by have := known_c 3072 w; rw [show knownW 3072 = true by decide +kernel] at this; exact this⟩
  go_enter Try.func27, Try.ntmps27
  go_wp2_with (first | (go_at_call 26; refine (Kc.out _).mono ?_; rintro e w1 ⟨rfl, k1⟩) | (go_at_call 43; refine (rest_3072 _).mono ?_; rintro e w2 ⟨rfl, k2⟩))
  go_ret
  exact ⟨rfl, k1.trans k2⟩
set_option maxHeartbeats 8000000 in
set_option maxRecDepth 100000 in
theorem rest_3073 (w : World) :
    Calls Try.prog 43 #[.int .i64 3073] w fun e w' => e = .returned (.string (ofR 3073).2.1) ∧ KpN w w' := by
  go_enter Try.func43, Try.ntmps43
  go_wp2
  go_ret
  exact ⟨rfl, Kp.refl _ _⟩
set_option maxHeartbeats 8000000 in
set_option maxRecDepth 100000 in
theorem name_3073 (w : World) :
    Calls Try.prog 27 #[.int .i64 3073] w fun e w' => e = .returned (.string (ofR 3073).2.1) ∧ KpN w w' := by
  have Kc : Aside0 (∀ w, Calls Try.prog 26 #[.int .i64 3073] w fun e w' => e = .returned (.bool true) ∧ KpN w w') := ⟨fun w => by have := known_c 3073 w; rw [show knownW 3073 = true by decide +kernel] at this; exact this⟩
  go_enter Try.func27, Try.ntmps27
  go_wp2_with (first | (go_at_call 26; refine (Kc.out _).mono ?_; rintro e w1 ⟨rfl, k1⟩) | (go_at_call 43; refine (rest_3073 _).mono ?_; rintro e w2 ⟨rfl, k2⟩))
  go_ret
  exact ⟨rfl, k1.trans k2⟩
set_option maxHeartbeats 8000000 in
set_option maxRecDepth 100000 in
theorem rest_3074 (w : World) :
    Calls Try.prog 43 #[.int .i64 3074] w fun e w' => e = .returned (.string (ofR 3074).2.1) ∧ KpN w w' := by
  go_enter Try.func43, Try.ntmps43
  go_wp2
  go_ret
  exact ⟨rfl, Kp.refl _ _⟩
set_option maxHeartbeats 8000000 in
set_option maxRecDepth 100000 in
theorem name_3074 (w : World) :
    Calls Try.prog 27 #[.int .i64 3074] w fun e w' => e = .returned (.string (ofR 3074).2.1) ∧ KpN w w' := by
  have Kc : Aside0 (∀ w, Calls Try.prog 26 #[.int .i64 3074] w fun e w' => e = .returned (.bool true) ∧ KpN w w') := ⟨fun w => by have := known_c 3074 w; rw [show knownW 3074 = true by decide +kernel] at this; exact this⟩
  go_enter Try.func27, Try.ntmps27
  go_wp2_with (first | (go_at_call 26; refine (Kc.out _).mono ?_; rintro e w1 ⟨rfl, k1⟩) | (go_at_call 43; refine (rest_3074 _).mono ?_; rintro e w2 ⟨rfl, k2⟩))
  go_ret
  exact ⟨rfl, k1.trans k2⟩
set_option maxHeartbeats 8000000 in
set_option maxRecDepth 100000 in
theorem rest_3857 (w : World) :
    Calls Try.prog 43 #[.int .i64 3857] w fun e w' => e = .returned (.string (ofR 3857).2.1) ∧ KpN w w' := by
  go_enter Try.func43, Try.ntmps43
  go_wp2
  go_ret
  exact ⟨rfl, Kp.refl _ _⟩
set_option maxHeartbeats 8000000 in
set_option maxRecDepth 100000 in
theorem name_3857 (w : World) :
    Calls Try.prog 27 #[.int .i64 3857] w fun e w' => e = .returned (.string (ofR 3857).2.1) ∧ KpN w w' := by
  have Kc : Aside0 (∀ w, Calls Try.prog 26 #[.int .i64 3857] w fun e w' => e = .returned (.bool true) ∧ KpN w w') := ⟨fun w => by have := known_c 3857 w; rw [show knownW 3857 = true by decide +kernel] at this; exact this⟩
  go_enter Try.func27, Try.ntmps27
  go_wp2_with (first | (go_at_call 26; refine (Kc.out _).mono ?_; rintro e w1 ⟨rfl, k1⟩) | (go_at_call 43; refine (rest_3857 _).mono ?_; rintro e w2 ⟨rfl, k2⟩))
  go_ret
  exact ⟨rfl, k1.trans k2⟩
set_option maxHeartbeats 8000000 in
set_option maxRecDepth 100000 in
theorem rest_3858 (w : World) :
    Calls Try.prog 43 #[.int .i64 3858] w fun e w' => e = .returned (.string (ofR 3858).2.1) ∧ KpN w w' := by
  go_enter Try.func43, Try.ntmps43
  go_wp2
  go_ret
  exact ⟨rfl, Kp.refl _ _⟩
set_option maxHeartbeats 8000000 in
set_option maxRecDepth 100000 in
theorem name_3858 (w : World) :
    Calls Try.prog 27 #[.int .i64 3858] w fun e w' => e = .returned (.string (ofR 3858).2.1) ∧ KpN w w' := by
  have Kc : Aside0 (∀ w, Calls Try.prog 26 #[.int .i64 3858] w fun e w' => e = .returned (.bool true) ∧ KpN w w') := ⟨fun w => by have := known_c 3858 w; rw [show knownW 3858 = true by decide +kernel] at this; exact this⟩
  go_enter Try.func27, Try.ntmps27
  go_wp2_with (first | (go_at_call 26; refine (Kc.out _).mono ?_; rintro e w1 ⟨rfl, k1⟩) | (go_at_call 43; refine (rest_3858 _).mono ?_; rintro e w2 ⟨rfl, k2⟩))
  go_ret
  exact ⟨rfl, k1.trans k2⟩
set_option maxHeartbeats 8000000 in
set_option maxRecDepth 100000 in
theorem rest_3859 (w : World) :
    Calls Try.prog 43 #[.int .i64 3859] w fun e w' => e = .returned (.string (ofR 3859).2.1) ∧ KpN w w' := by
  go_enter Try.func43, Try.ntmps43
  go_wp2
  go_ret
  exact ⟨rfl, Kp.refl _ _⟩
set_option maxHeartbeats 8000000 in
set_option maxRecDepth 100000 in
theorem name_3859 (w : World) :
    Calls Try.prog 27 #[.int .i64 3859] w fun e w' => e = .returned (.string (ofR 3859).2.1) ∧ KpN w w' := by
  have Kc : Aside0 (∀ w, Calls Try.prog 26 #[.int .i64 3859] w fun e w' => e = .returned (.bool true) ∧ KpN w w') := ⟨fun w => by have := known_c 3859 w; rw [show knownW 3859 = true by decide +kernel] at this; exact this⟩
  go_enter Try.func27, Try.ntmps27
  go_wp2_with (first | (go_at_call 26; refine (Kc.out _).mono ?_; rintro e w1 ⟨rfl, k1⟩) | (go_at_call 43; refine (rest_3859 _).mono ?_; rintro e w2 ⟨rfl, k2⟩))
  go_ret
  exact ⟨rfl, k1.trans k2⟩
set_option maxHeartbeats 8000000 in
set_option maxRecDepth 100000 in
theorem rest_3860 (w : World) :
    Calls Try.prog 43 #[.int .i64 3860] w fun e w' => e = .returned (.string (ofR 3860).2.1) ∧ KpN w w' := by
  go_enter Try.func43, Try.ntmps43
  go_wp2
  go_ret
  exact ⟨rfl, Kp.refl _ _⟩
set_option maxHeartbeats 8000000 in
set_option maxRecDepth 100000 in
theorem name_3860 (w : World) :
    Calls Try.prog 27 #[.int .i64 3860] w fun e w' => e = .returned (.string (ofR 3860).2.1) ∧ KpN w w' := by
  have Kc : Aside0 (∀ w, Calls Try.prog 26 #[.int .i64 3860] w fun e w' => e = .returned (.bool true) ∧ KpN w w') := ⟨fun w => by have := known_c 3860 w; rw [show knownW 3860 = true by decide +kernel] at this; exact this⟩
  go_enter Try.func27, Try.ntmps27
  go_wp2_with (first | (go_at_call 26; refine (Kc.out _).mono ?_; rintro e w1 ⟨rfl, k1⟩) | (go_at_call 43; refine (rest_3860 _).mono ?_; rintro e w2 ⟨rfl, k2⟩))
  go_ret
  exact ⟨rfl, k1.trans k2⟩
theorem name_k (n : Int) (h : n ∈ nums) (w : World) :
    Calls Try.prog 27 #[.int .i64 n] w fun e w' => e = .returned (.string (ofR n).2.1) ∧ KpN w w' := by
  simp only [nums, List.mem_cons, List.not_mem_nil, or_false] at h
  rcases h with rfl | rfl | rfl | rfl | rfl | rfl | rfl | rfl | rfl | rfl | rfl | rfl | rfl | rfl | rfl | rfl | rfl | rfl | rfl | rfl | rfl | rfl | rfl | rfl | rfl | rfl | rfl | rfl | rfl | rfl | rfl
  · exact name_768 w
  · exact name_256 w
  · exact name_769 w
  · exact name_770 w
  · exact name_771 w
  · exact name_772 w
  · exact name_260 w
  · exact name_836 w
  · exact name_324 w
  · exact name_773 w
  · exact name_261 w
  · exact name_774 w
  · exact name_262 w
  · exact name_832 w
  · exact name_320 w
  · exact name_834 w
  · exact name_322 w
  · exact name_835 w
  · exact name_323 w
  · exact name_2816 w
  · exact name_2818 w
  · exact name_833 w
  · exact name_321 w
  · exact name_384 w
  · exact name_3072 w
  · exact name_3073 w
  · exact name_3074 w
  · exact name_3857 w
  · exact name_3858 w
  · exact name_3859 w
  · exact name_3860 w
set_option maxHeartbeats 8000000 in
set_option maxRecDepth 100000 in
theorem name_no (n : Int) (h : knownW n = false) (w : World) :
    Calls Try.prog 27 #[.int .i64 n] w fun e w' => e = .returned (.string ⟨#[]⟩) ∧ KpN w w' := by
  have Kc : Aside0 (∀ w, Calls Try.prog 26 #[.int .i64 n] w fun e w' => e = .returned (.bool false) ∧ KpN w w') := ⟨fun w => by have := known_c n w; rw [h] at this; exact this⟩
  clear h
  go_enter Try.func27, Try.ntmps27
  go_wp2_with (go_at_call 26; refine (Kc.out _).mono ?_; rintro e w1 ⟨rfl, k1⟩)
  go_ret
  exact ⟨rfl, k1⟩
/-- The name, known or not. -/
theorem name_c (n : Int) (w : World) :
    Calls Try.prog 27 #[.int .i64 n] w fun e w' => e = .returned (.string (ofR n).2.1) ∧ KpN w w' := by
  by_cases hk : knownW n = true
  · exact name_k n (known_nums hk) w
  · have hk' : knownW n = false := by simpa using hk
    have := known_of n
    have hn : n ∉ nums := fun hi => by
      have h2 : ∀ n ∈ nums, (ofR n).2.2.2.2 = true := by decide +kernel
      rw [h2 n hi, hk'] at this; cases this
    have e : (ofR n).2.1 = ⟨#[]⟩ := by
      unfold ofR findR
      have : rowsL.find? (fun x => decide (x.f0 = n)) = none := by
        rw [List.find?_eq_none]
        intro y hy hd
        exact hn (by rw [← rows_nums]; exact List.mem_map.2 ⟨y, hy, by simpa using hd⟩)
      rw [this]
    rw [e]; exact name_no n hk' w
end Go.Proofs.Ytkbnoeebnmphbaa.H
