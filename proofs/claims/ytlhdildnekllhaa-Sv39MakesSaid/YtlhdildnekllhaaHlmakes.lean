/- Sv39Makes, walked by hand: words of entries and of the register. -/
import Derived.Test.YtlhdildnekllhaaTb
namespace Go.Proofs.Ytlhdildnekllhaa.H
open Go.RowKit Go.Proofs.YtlhdildnekllhaaW.PrintWords Go.Proofs.YtlhdildnekllhaaW.PrintLast Go.Proofs.Ytlhdildnekllhaa.PAl Go.Proofs.Ytlhdildnekllhaa.Pure Go.Proofs.Ytlhdildnekllhaa.Vw
set_option linter.unusedVariables false
set_option linter.unusedSimpArgs false
theorem orAdd (a b i : Nat) (h : b < 2 ^ i) : 2 ^ i * a ||| b = 2 ^ i * a + b := (Nat.two_pow_add_eq_or_of_lt h a).symm
theorem page_i (n : Nat) (hn : n < 17592186044416) : IntKind.u64.wrap (((n * 4096 : Nat) : Int) / 4096 * 1024) = ((2 ^ 10 * n : Nat) : Int) := by rw [IntKind.wrap_u64]; omega
theorem entry_v (n : Nat) (hn : n < 17592186044416) : sv39_Entry.f ((n * 4096 : Nat) : Int) = some ((n * 1024 + 1 : Nat) : Int) := by
  unfold sv39_Entry.f
  rw [page_i n hn, show (1 : Int) = ((1 : Nat) : Int) from rfl, u64_or_nat _ _ (by omega) (by decide), orAdd n 1 10 (by decide), Nat.mul_comm]
theorem bits_v : word_Bits.f 20 [0, 1, 2, 3, 6, 7] = some 207 := by decide +kernel
theorem leaf0_v (n : Nat) (hn : n < 17592186044416) : sv39_Leaf.f 20 ((n * 4096 : Nat) : Int) false = some ((n * 1024 + 207 : Nat) : Int) := by
  unfold sv39_Leaf.f
  rw [bits_v, Option.bind_some, page_i n hn, if_neg (by decide), show (207 : Int) = ((207 : Nat) : Int) from rfl, u64_or_nat _ _ (by omega) (by decide), orAdd n 207 10 (by decide), Nat.mul_comm]
theorem leaf1_v (n : Nat) (hn : n < 17592186044416) : sv39_Leaf.f 20 ((n * 4096 : Nat) : Int) true = some ((n * 1024 + 223 : Nat) : Int) := by
  unfold sv39_Leaf.f
  have e : (2 ^ 10 * n ||| 207) ||| 16 = 2 ^ 10 * n + 223 := by rw [Nat.or_assoc, show 207 ||| 16 = 223 from by decide, orAdd n 223 10 (by decide)]
  have e2 : 2 ^ 10 * n ||| 207 < 18446744073709551616 := by rw [orAdd n 207 10 (by decide)]; omega
  rw [bits_v, Option.bind_some, page_i n hn, if_pos rfl, show (207 : Int) = ((207 : Nat) : Int) from rfl, show (16 : Int) = ((16 : Nat) : Int) from rfl, u64_or_nat _ _ (by omega) (by decide), u64_or_nat _ _ e2 (by decide), e, Nat.mul_comm]
theorem satp_n (n : Nat) (hn : n < 17592186044416) : sv39_Satp.f ((n * 4096 : Nat) : Int) = some ((9223372036854775808 + n : Nat) : Int) := by
  unfold sv39_Satp.f
  have e : (2 ^ 63 * 1 ||| n) = 2 ^ 63 * 1 + n := orAdd 1 n 63 (by omega)
  rw [show ((n * 4096 : Nat) : Int) / 4096 = (n : Int) by omega, show (9223372036854775808 : Int) = ((2 ^ 63 * 1 : Nat) : Int) from rfl, u64_or_nat _ _ (by decide) (by omega), e]
set_option maxHeartbeats 8000000 in
set_option maxRecDepth 100000 in
theorem makes1 (p : Nat) (b : Bool) (w : World) (h : p % 4096 ≠ 0) :
    Calls Try.prog 5 #[.int .u64 (p : Int), .bool b] w fun e w' => e = .returned (.bool true) ∧ Below w.heap.size w w' := by
  obtain ⟨z, hz⟩ : ∃ z : Nat, (p : Int) % 4096 = (z : Int) := ⟨p % 4096, by omega⟩
  have hz0 : z ≠ 0 := by omega
  have AW := Aside0.mk awake10_c
  clear h
  go_enter Try.func5, Try.ntmps5
  go_wp2_with (first
    | (go_at_call 8; refine (AW.out _).mono ?_; rintro e w1 ⟨rfl, hk1⟩))
  go_ret
  exact ⟨rfl, hk1.below (fun _ _ h => h.elim) (Nat.le_refl _)⟩
set_option maxHeartbeats 8000000 in
set_option maxRecDepth 100000 in
theorem makes2 (p : Nat) (b : Bool) (w : World) (h : p % 4096 = 0) (hp : 72057594037927936 ≤ p) :
    Calls Try.prog 5 #[.int .u64 (p : Int), .bool b] w fun e w' => e = .returned (.bool true) ∧ Below w.heap.size w w' := by
  have hz : (p : Int) % 4096 = 0 := by omega
  have t1 : decide (72057594037927936 ≤ (p : Int)) = true := decide_eq_true (by omega)
  have t1b : decide (72057594037927936 ≤ p) = true := decide_eq_true hp
  have AW := Aside0.mk awake10_c
  clear h hp
  go_enter Try.func5, Try.ntmps5
  go_wp2_with (first
    | (go_at_call 8; refine (AW.out _).mono ?_; rintro e w1 ⟨rfl, hk1⟩))
  go_ret
  exact ⟨rfl, hk1.below (fun _ _ h => h.elim) (Nat.le_refl _)⟩
set_option maxHeartbeats 8000000 in
set_option maxRecDepth 100000 in
theorem makes3 (p n : Nat) (b : Bool) (w : World) (hp : p = n * 4096) (hn : n < 17592186044416) :
    Calls Try.prog 5 #[.int .u64 (p : Int), .bool b] w fun e w' => e = .returned (.bool true) ∧ Below w.heap.size w w' := by
  have hz : (p : Int) % 4096 = 0 := by omega
  have t1 : decide (72057594037927936 ≤ (p : Int)) = false := decide_eq_false (by omega)
  have t1b : decide (72057594037927936 ≤ p) = false := decide_eq_false (by omega)
  have q1 : (p : Int) / 4096 = (n : Int) := by omega
  have AW := Aside0.mk awake10_c
  obtain ⟨a, ha⟩ : ∃ a, n * 1024 = a := ⟨_, rfl⟩
  obtain ⟨lf, hlf⟩ : ∃ x, n * 1024 + 207 = x := ⟨_, rfl⟩
  obtain ⟨lu, hlu⟩ : ∃ x, n * 1024 + 223 = x := ⟨_, rfl⟩
  obtain ⟨en, hen⟩ : ∃ x, n * 1024 + 1 = x := ⟨_, rfl⟩
  obtain ⟨sp, hsp⟩ : ∃ x, 9223372036854775808 + n = x := ⟨_, rfl⟩
  have EN : Aside0 (∀ W, Calls Try.prog 15 #[.int .u64 (p : Int)] W fun e w' => e = .returned (.int .u64 (en : Int)) ∧ ∃ m, w' = W.drewN m) := ⟨fun W => (sv39_Entry.calls _ _ W (by rw [hp, entry_v n hn, hen])).mono fun _ _ q => ⟨q.1, q.2.out⟩⟩
  have L0 : Aside0 (∀ W, Calls Try.prog 16 #[.int .u64 (p : Int), .bool false] W fun e w' => e = .returned (.int .u64 (lf : Int)) ∧ KpN W w') := ⟨fun W => (sv39_Leaf.calls 20 _ _ _ W (by rw [hp, leaf0_v n hn, hlf])).mono fun _ _ q => ⟨q.1, Kp.of_below q.2 _⟩⟩
  have L1 : Aside0 (∀ W, Calls Try.prog 16 #[.int .u64 (p : Int), .bool true] W fun e w' => e = .returned (.int .u64 (lu : Int)) ∧ KpN W w') := ⟨fun W => (sv39_Leaf.calls 20 _ _ _ W (by rw [hp, leaf1_v n hn, hlu])).mono fun _ _ q => ⟨q.1, Kp.of_below q.2 _⟩⟩
  have SA : Aside0 (∀ W, Calls Try.prog 17 #[.int .u64 (p : Int)] W fun e w' => e = .returned (.int .u64 (sp : Int)) ∧ ∃ m, w' = W.drewN m) := ⟨fun W => (sv39_Satp.calls _ _ W (by rw [hp, satp_n n hn, hsp])).mono fun _ _ q => ⟨q.1, q.2.out⟩⟩
  have q0 : IntKind.u64.wrap (n : Int) = (n : Int) := by rw [IntKind.wrap_u64]; omega
  have q2 : IntKind.u64.wrap ((n : Int) * 1024) = (a : Int) := by rw [IntKind.wrap_u64]; omega
  have q3 : IntKind.u64.wrap ((a : Int) + 207) = (lf : Int) := by rw [IntKind.wrap_u64]; omega
  have q4 : IntKind.u64.wrap ((lf : Int) + 16) = (lu : Int) := by rw [IntKind.wrap_u64]; omega
  have q5 : IntKind.u64.wrap ((a : Int) + 1) = (en : Int) := by rw [IntKind.wrap_u64]; omega
  have q6 : IntKind.u64.wrap (9223372036854775808 + (n : Int)) = (sp : Int) := by rw [IntKind.wrap_u64]; omega
  clear hp hn ha hlf hlu hen hsp
  cases b
  · clear L1
    go_enter Try.func5, Try.ntmps5
    go_wp2_with (first
      | (go_at_call 8; refine (AW.out _).mono ?_; rintro e w1 ⟨rfl, hk1⟩)
      | (go_at_call 15; refine (EN.out _).mono ?_; rintro e w2 ⟨rfl, m2, rfl⟩)
      | (go_at_call 16; refine (L0.out _).mono ?_; rintro e w3 ⟨rfl, hk3⟩)
      | (go_at_call 17; refine (SA.out _).mono ?_; rintro e w4 ⟨rfl, m4, rfl⟩))
    go_ret
    exact ⟨rfl, (((hk1.drewN m2).trans hk3).drewN m4).below (fun _ _ h => h.elim) (Nat.le_refl _)⟩
  · clear L0
    go_enter Try.func5, Try.ntmps5
    go_wp2_with (first
      | (go_at_call 8; refine (AW.out _).mono ?_; rintro e w1 ⟨rfl, hk1⟩)
      | (go_at_call 15; refine (EN.out _).mono ?_; rintro e w2 ⟨rfl, m2, rfl⟩)
      | (go_at_call 16; refine (L1.out _).mono ?_; rintro e w3 ⟨rfl, hk3⟩)
      | (go_at_call 17; refine (SA.out _).mono ?_; rintro e w4 ⟨rfl, m4, rfl⟩))
    go_ret
    exact ⟨rfl, (((hk1.drewN m2).trans hk3).drewN m4).below (fun _ _ h => h.elim) (Nat.le_refl _)⟩
theorem makes_c (p : Nat) (b : Bool) (w : World) (hU : U p) :
    Calls Try.prog 5 #[.int .u64 (p : Int), .bool b] w fun e w' => e = .returned (.bool true) ∧ Below w.heap.size w w' := by
  by_cases h : p % 4096 = 0
  · by_cases h2 : 72057594037927936 ≤ p
    · exact makes2 p b w h h2
    · exact makes3 p (p / 4096) b w (by omega) (by omega)
  · exact makes1 p b w h
end Go.Proofs.Ytlhdildnekllhaa.H
