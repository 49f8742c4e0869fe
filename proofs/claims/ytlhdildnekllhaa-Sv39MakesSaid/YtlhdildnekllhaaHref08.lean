/- The document's answer for the registers (vireoref08), walked by hand: what each function answers. -/
import Derived.Test.YtlhdildnekllhaaHcsr4
import Derived.StillTailTactics
namespace Go.Proofs.Ytlhdildnekllhaa.H
open Go.RowKit Go.Proofs.YtlhdildnekllhaaW.PrintWords Go.Proofs.YtlhdildnekllhaaW.PrintLast Go.Proofs.Ytlhdildnekllhaa.PAl Go.Proofs.Ytlhdildnekllhaa.Pure Go.Proofs.Ytlhdildnekllhaa.Vw
set_option linter.unusedVariables false
set_option linter.unusedSimpArgs false
abbrev RT : TypeId := 57
abbrev KpN (w w' : World) : Prop := Kp w w' (fun _ => False)
theorem getr_c (x : Nat) (a n : Int) (w : World) (hx : U x) : Calls Try.prog 22 #[.int .u64 (x : Int), .int .i64 a, .int .i64 n] w fun e w' => e = .returned (.int .u64 ((getW x a n : Nat) : Int)) ∧ KpN w w' :=
  (vireoref01_Get.calls 140 _ _ _ _ w (vireoref01_Get_is x hx.lt a n 140 (by decide))).mono fun e w' h => ⟨h.1, Kp.of_below h.2 _⟩
theorem bitw_c (x y : Nat) (how : Int) (w : World) (hx : U x) (hy : U y) : Calls Try.prog 86 #[.int .u64 (x : Int), .int .u64 (y : Int), .int .i64 how] w fun e w' => e = .returned (.int .u64 ((bwW x y how : Nat) : Int)) ∧ KpN w w' :=
  (vireoref05_bitwise.calls 140 _ _ _ _ w (vireoref05_bitwise_is x y hx.lt hy.lt how 140 (by decide))).mono fun e w' h => ⟨h.1, Kp.of_below h.2 _⟩
set_option maxHeartbeats 8000000 in
set_option maxRecDepth 100000 in
theorem do_and (x y : Nat) (w : World) (hx : U x) (hy : U y) :
    Calls Try.prog 72 #[.int .i64 40, .int .u64 (x : Int), .int .u64 (y : Int)] w fun e w' => e = .returned (.tuple #[.int .u64 ((x &&& y : Nat) : Int), .bool true]) ∧ KpN w w' := by
  have e0 : bwW x y 0 = x &&& y := rfl
  go_enter Try.func72, Try.ntmps72
  go_wp2_with (go_at_call 86; refine (bitw_c _ _ _ _ hx hy).mono ?_; rintro e w' ⟨rfl, hk⟩)
  go_ret2
  exact ⟨rfl, hk⟩
set_option maxHeartbeats 8000000 in
set_option maxRecDepth 100000 in
theorem do_or (x y : Nat) (w : World) (hx : U x) (hy : U y) :
    Calls Try.prog 72 #[.int .i64 39, .int .u64 (x : Int), .int .u64 (y : Int)] w fun e w' => e = .returned (.tuple #[.int .u64 ((x ||| y : Nat) : Int), .bool true]) ∧ KpN w w' := by
  have e0 : bwW x y 1 = x ||| y := rfl
  go_enter Try.func72, Try.ntmps72
  go_wp2_with (go_at_call 86; refine (bitw_c _ _ _ _ hx hy).mono ?_; rintro e w' ⟨rfl, hk⟩)
  go_ret2
  exact ⟨rfl, hk⟩
set_option maxHeartbeats 8000000 in
set_option maxRecDepth 100000 in
theorem and_r (x y : Nat) (w : World) (hx : U x) (hy : U y) :
    Calls Try.prog 45 #[.int .u64 (x : Int), .int .u64 (y : Int)] w fun e w' => e = .returned (.int .u64 ((x &&& y : Nat) : Int)) ∧ KpN w w' := by
  go_enter Try.func45, Try.ntmps45
  go_wp2_with (go_at_call 72; refine (do_and _ _ _ hx hy).mono ?_; rintro e w' ⟨rfl, hk⟩)
  go_ret
  exact ⟨rfl, hk⟩
theorem and_rl (x n : Nat) (w : World) (hx : U x) (hn : n < 18446744073709551616) :
    Calls Try.prog 45 #[.int .u64 (x : Int), .int .u64 (@OfNat.ofNat Int n instOfNat)] w fun e w' => e = .returned (.int .u64 ((x &&& n : Nat) : Int)) ∧ KpN w w' := and_r x n w hx ⟨hn⟩
set_option maxHeartbeats 8000000 in
set_option maxRecDepth 100000 in
theorem or_r (x y : Nat) (w : World) (hx : U x) (hy : U y) :
    Calls Try.prog 80 #[.int .u64 (x : Int), .int .u64 (y : Int)] w fun e w' => e = .returned (.int .u64 ((x ||| y : Nat) : Int)) ∧ KpN w w' := by
  go_enter Try.func80, Try.ntmps80
  go_wp2_with (go_at_call 72; refine (do_or _ _ _ hx hy).mono ?_; rintro e w' ⟨rfl, hk⟩)
  go_ret
  exact ⟨rfl, hk⟩
def mixW (old x mask : Nat) : Nat := minus old mask ||| (x &&& mask)
theorem mixW_ok {old x mask : Nat} (h : U old) (k : U x) : U (mixW old x mask) := h.minus.or k.and
set_option maxHeartbeats 8000000 in
set_option maxRecDepth 100000 in
theorem mix_r (old x mask : Nat) (w : World) (ho : U old) (hx : U x) (hm : U mask) :
    Calls Try.prog 70 #[.int .u64 (old : Int), .int .u64 (x : Int), .int .u64 (mask : Int)] w fun e w' => e = .returned (.int .u64 ((mixW old x mask : Nat) : Int)) ∧ KpN w w' := by
  have hn : U (18446744073709551615 - mask) := ⟨by omega⟩
  have en : Go.bits .xor .u64 IntKind.u64.max (mask : Int) = ((18446744073709551615 - mask : Nat) : Int) := not_nat mask hm.lt
  obtain ⟨k, hk⟩ : ∃ k, 18446744073709551615 - mask = k := ⟨_, rfl⟩
  rw [hk] at hn en
  have hmix : mixW old x mask = (old &&& k) ||| (x &&& mask) := by unfold mixW minus; rw [hk]
  have Hk := Aside0.mk hmix
  clear hk hmix
  go_enter Try.func70, Try.ntmps70
  go_wp2_with (fail)
  refine (and_r old k _ ho hn).mono ?_
  rintro e w1 ⟨rfl, hk1⟩
  go_wp2_with (fail)
  refine (and_r x mask _ hx hm).mono ?_
  rintro e w2 ⟨rfl, hk2⟩
  go_wp2_with (fail)
  refine (or_r _ _ _ ho.and hx.and).mono ?_
  rintro e w3 ⟨rfl, hk3⟩
  go_wp2
  go_ret
  rw [Hk.out]
  exact ⟨rfl, (hk1.trans hk2).trans hk3⟩
theorem mix_rl (old x n : Nat) (w : World) (ho : U old) (hx : U x) (hn : n < 18446744073709551616) :
    Calls Try.prog 70 #[.int .u64 (old : Int), .int .u64 (x : Int), .int .u64 (@OfNat.ofNat Int n instOfNat)] w fun e w' => e = .returned (.int .u64 ((mixW old x n : Nat) : Int)) ∧ KpN w w' := mix_r old x n w ho hx ⟨hn⟩
theorem bit_eq (x : Nat) (a : Int) : ((((getW x a 1 : Nat) : Int)) == 1) = bitW x a := by
  rw [getW_one]; unfold bitW
  cases (decide (0 ≤ a ∧ a ≤ 63) && x.testBit a.toNat) <;> rfl
end Go.Proofs.Ytlhdildnekllhaa.H
