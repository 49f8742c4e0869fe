/- Which registers a program may read and write (csr.File.May), walked by hand. -/
import Derived.Test.YtkbnoeebnmphbaaHbitlem
namespace Go.Proofs.Ytkbnoeebnmphbaa.H
open Go.RowKit Go.Proofs.YtkbnoeebnmphbaaW.PrintWords Go.Proofs.YtkbnoeebnmphbaaW.PrintLast Go.Proofs.Ytkbnoeebnmphbaa.PAl Go.Proofs.Ytkbnoeebnmphbaa.Pure Go.Proofs.Ytkbnoeebnmphbaa.Vw
set_option linter.unusedVariables false
set_option linter.unusedSimpArgs false
def counterW (s : VS) (n : Int) : Bool := (!(decide (s.m < 3) && !bitW (s.r 8) (n - 3072))) && (!(s.m == 0) || bitW (s.r 14) (n - 3072))
set_option maxHeartbeats 8000000 in
set_option maxRecDepth 100000 in
theorem counter_c (g : Nat) (s : VS) (n : Int) (w : World) (hI : St FT w g s) (hs : s.ok) (h0 : 3072 ≤ n) (h1 : n ≤ 3074) :
    Calls Try.prog 41 #[.pointer (some ⟨g, 0, none⟩), .int .i64 n] w fun e w' => e = .returned (.bool (counterW s n)) ∧ ∃ m, w' = w.drewN m := by
  have c0 := hI.c0
  have c8 := hI.c 8
  have c14 := hI.c 14
  obtain ⟨b8, hb8⟩ : ∃ b, bitW (s.r 8) (n - 3072) = b := ⟨_, rfl⟩
  obtain ⟨b14, hb14⟩ : ∃ b, bitW (s.r 14) (n - 3072) = b := ⟨_, rfl⟩
  have B8 : Aside0 (∀ w, Calls Try.prog 36 #[.int .u64 (s.r 8 : Int), .int .i64 (n - 3072)] w fun e w' => e = .returned (.bool b8) ∧ ∃ m, w' = w.drewN m) := ⟨fun w => by rw [← hb8]; exact bit_c _ _ w (hs 8)⟩
  have B14 : Aside0 (∀ w, Calls Try.prog 36 #[.int .u64 (s.r 14 : Int), .int .i64 (n - 3072)] w fun e w' => e = .returned (.bool b14) ∧ ∃ m, w' = w.drewN m) := ⟨fun w => by rw [← hb14]; exact bit_c _ _ w (hs 14)⟩
  have HC : Aside0 (counterW s n = ((!(decide (s.m < 3) && !b8)) && (!(s.m == 0) || b14))) := ⟨by unfold counterW; rw [hb8, hb14]⟩
  clear hb8 hb14
  by_cases m3 : s.m < 3
  · have d3 : decide (s.m < 3) = true := decide_eq_true m3
    by_cases m0 : s.m = 0
    · have d0 : (s.m == 0) = true := beq_iff_eq.2 m0
      have d1 : (s.m != 0) = false := by rw [m0]; rfl
      clear m0 m3
      cases b8
      all_goals
        go_enter Try.func41, Try.ntmps41
        go_wp2_with (first | (go_at_call_of 36 (s.r 8); refine (B8.out _).mono ?_; rintro e w' ⟨rfl, m, rfl⟩) | (go_at_call_of 36 (s.r 14); refine (B14.out _).mono ?_; rintro e w' ⟨rfl, m, rfl⟩))
        go_ret
        rw [HC.out, d3, d0]
        exact ⟨by cases b14 <;> rfl, (by first | exact ⟨_, rfl⟩ | exact ⟨0, rfl⟩)⟩
    · have d0 : (s.m == 0) = false := beq_eq_false_iff_ne.2 m0
      have d1 : (s.m != 0) = true := bne_iff_ne.2 m0
      clear m0 m3
      cases b8
      all_goals
        go_enter Try.func41, Try.ntmps41
        go_wp2_with (first | (go_at_call_of 36 (s.r 8); refine (B8.out _).mono ?_; rintro e w' ⟨rfl, m, rfl⟩) | (go_at_call_of 36 (s.r 14); refine (B14.out _).mono ?_; rintro e w' ⟨rfl, m, rfl⟩))
        go_ret
        rw [HC.out, d3, d0]
        exact ⟨by cases b14 <;> rfl, (by first | exact ⟨_, rfl⟩ | exact ⟨0, rfl⟩)⟩
  · have d3 : decide (s.m < 3) = false := decide_eq_false m3
    have d0 : (s.m == 0) = false := beq_eq_false_iff_ne.2 (by omega)
    have d1 : (s.m != 0) = true := bne_iff_ne.2 (by omega)
    clear m3
    go_enter Try.func41, Try.ntmps41
    go_wp2_with (first | (go_at_call_of 36 (s.r 8); refine (B8.out _).mono ?_; rintro e w' ⟨rfl, m, rfl⟩) | (go_at_call_of 36 (s.r 14); refine (B14.out _).mono ?_; rintro e w' ⟨rfl, m, rfl⟩))
    go_ret
    rw [HC.out, d3, d0]
    exact ⟨by cases b14 <;> rfl, (by first | exact ⟨_, rfl⟩ | exact ⟨0, rfl⟩)⟩
def mayW (s : VS) (n : Int) (wr : Bool) : Bool :=
  knownW n && !(wr && (n / 1024 == 3)) && !decide (s.m < n / 256 % 4) && !((n == 384) && (s.m == 1) && bitW (s.r 1) 20) && (if 3072 ≤ n ∧ n ≤ 3074 then counterW s n else true)
theorem known_nums {n : Int} (h : knownW n = true) : n ∈ nums := by
  by_cases hi : n ∈ nums
  · exact hi
  · exfalso
    have hp := place_no hi
    unfold knownW at h
    rw [hp] at h
    simp only [nums, List.mem_cons, List.not_mem_nil, or_false, not_or] at hi
    simp [hi] at h
theorem bits_nums : ∀ n ∈ nums, Go.bits .and .i64 (n / 256) 3 = n / 256 % 4 ∧ 0 ≤ n ∧ n < 4096 := by decide +kernel
set_option maxHeartbeats 8000000 in
set_option maxRecDepth 100000 in
theorem may_c (g : Nat) (s : VS) (n : Int) (wr : Bool) (w : World) (hI : St FT w g s) (hs : s.ok) :
    Calls Try.prog 23 #[.pointer (some ⟨g, 0, none⟩), .int .i64 n, .bool wr] w fun e w' => e = .returned (.bool (mayW s n wr)) ∧ KpN w w' := by
  by_cases hk : knownW n = true
  · obtain ⟨eb, n0, n1⟩ := bits_nums n (known_nums hk)
    have Kc : Aside0 (∀ w, Calls Try.prog 26 #[.int .i64 n] w fun e w' => e = .returned (.bool true) ∧ KpN w w') := ⟨fun w => by have := known_c n w; rw [hk] at this; exact this⟩
    have Hk := Aside0.mk hk
    clear hk
    obtain ⟨b20, hb⟩ : ∃ b, bitW (s.r 1) 20 = b := ⟨_, rfl⟩
    have B20 : Aside0 (∀ w, Calls Try.prog 36 #[.int .u64 (s.r 1 : Int), .int .i64 20] w fun e w' => e = .returned (.bool b20) ∧ ∃ m, w' = w.drewN m) := ⟨fun w => by rw [← hb]; exact bit_c _ _ w (hs 1)⟩
    have Hb := Aside0.mk hb
    clear hb
    go_enter Try.func23, Try.ntmps23
    go_wp2_with (first
      | (go_at_call 26; refine (Kc.out _).mono ?_; rintro e w1 ⟨rfl, k1⟩; have hI1 := hI.kp k1 (fun h => h); have c0 := hI1.c0; have c1 := hI1.c 1)
      | (go_at_call 36; refine (B20.out _).mono ?_; rintro e w2 ⟨rfl, m2, rfl⟩)
      | (go_at_call 41; refine (counter_c g s n _ (by first | exact hI1 | exact hI1.drewN _) hs (by assumption) (by assumption)).mono ?_; rintro e w3 ⟨rfl, m3, rfl⟩))
    all_goals go_ret
    all_goals (have hk := Hk.out; have hb := Hb.out; refine ⟨congrArg (fun b => Ending.returned (.bool b)) ?_, (by first | exact k1 | exact k1.drewN _ | exact (k1.drewN _).drewN _)⟩)
    all_goals clear Kc B20 eb
    all_goals simp_all [mayW]
  · have hk2 : knownW n = false := by simpa using hk
    have Kc : Aside0 (∀ w, Calls Try.prog 26 #[.int .i64 n] w fun e w' => e = .returned (.bool false) ∧ KpN w w') := ⟨fun w => by have := known_c n w; rw [hk2] at this; exact this⟩
    have HM : Aside0 (mayW s n wr = false) := ⟨by unfold mayW; rw [hk2]; rfl⟩
    clear hk hk2
    go_enter Try.func23, Try.ntmps23
    go_wp2_with (go_at_call 26; refine (Kc.out _).mono ?_; rintro e w1 ⟨rfl, k1⟩)
    go_ret
    rw [HM.out]
    exact ⟨rfl, k1⟩
end Go.Proofs.Ytkbnoeebnmphbaa.H
