/- The hart's registers (package csr), walked by hand: what each method answers, and what it leaves. -/
import Derived.Test.YtlhdildnekllhaaHb
import Derived.Outline
namespace Go.Proofs.Ytlhdildnekllhaa.H
open Go.RowKit Go.Proofs.YtlhdildnekllhaaW.PrintWords Go.Proofs.YtlhdildnekllhaaW.PrintLast Go.Proofs.Ytlhdildnekllhaa.PAl Go.Proofs.Ytlhdildnekllhaa.Pure Go.Proofs.Ytlhdildnekllhaa.Vw
set_option linter.unusedVariables false
set_option linter.unusedSimpArgs false
abbrev FT : TypeId := 54

def superW (n : Int) : Nat :=
  if n = 261 then 13 else if n = 262 then 14 else if n = 320 then 15 else if n = 321 then 16 else if n = 322 then 17 else if n = 323 then 18 else if n = 384 then 19 else if n = 3073 then 22 else 0
def placeW (n : Int) : Nat :=
  if n = 770 then 2 else if n = 771 then 3 else if n = 772 then 4 else if n = 773 then 7 else if n = 774 then 8 else if n = 832 then 9 else if n = 833 then 10 else if n = 834 then 11 else if n = 835 then 12 else if n = 2816 ∨ n = 3072 then 20 else if n = 2818 ∨ n = 3074 then 21 else superW n
theorem superW_le (n : Int) : superW n ≤ 22 := by
  unfold superW; repeat' split
  all_goals decide
theorem placeW_le (n : Int) : placeW n ≤ 22 := by
  unfold placeW; repeat' split
  all_goals first | exact superW_le n | decide
def ptrO (g : Nat) : Nat → Value
  | 0 => .pointer none
  | k + 1 => .pointer (some ⟨g, k + 1, none⟩)
set_option maxHeartbeats 8000000 in
set_option maxRecDepth 100000 in
theorem super_c (g : Nat) (n : Int) (w : World) :
    Calls Try.prog 78 #[.pointer (some ⟨g, 0, none⟩), .int .i64 n] w fun e w' => e = .returned (ptrO g (superW n)) ∧ w' = w := by
  go_enter Try.func78, Try.ntmps78
  go_wp2
  all_goals go_ret
  all_goals (refine ⟨congrArg Ending.returned ?_, rfl⟩; simp only [beq_iff_eq, beq_eq_false_iff_ne] at *; simp [superW, ptrO, *])
set_option maxHeartbeats 8000000 in
set_option maxRecDepth 100000 in
theorem place_c (g : Nat) (n : Int) (w : World) :
    Calls Try.prog 68 #[.pointer (some ⟨g, 0, none⟩), .int .i64 n] w fun e w' => e = .returned (ptrO g (placeW n)) ∧ w' = w := by
  go_enter Try.func68, Try.ntmps68
  go_wp2_with (go_at_call 78; refine (super_c _ _ _).mono ?_; rintro e w' ⟨rfl, rfl⟩)
  all_goals go_ret
  all_goals (refine ⟨congrArg Ending.returned ?_, rfl⟩; simp only [beq_iff_eq, beq_eq_false_iff_ne] at *; simp [placeW, ptrO, *])
theorem place_nil (g : Nat) (n : Int) (w : World) (h : placeW n = 0) :
    Calls Try.prog 68 #[.pointer (some ⟨g, 0, none⟩), .int .i64 n] w fun e w' => e = .returned (.pointer none) ∧ w' = w :=
  (place_c g n w).mono fun e w' ⟨h1, h2⟩ => ⟨by rw [h1, h]; rfl, h2⟩
theorem place_some (g : Nat) (n : Int) (w : World) (p : Nat) (h : placeW n = p) (hp : 1 ≤ p) :
    Calls Try.prog 68 #[.pointer (some ⟨g, 0, none⟩), .int .i64 n] w fun e w' => e = .returned (.pointer (some ⟨g, p, none⟩)) ∧ w' = w :=
  (place_c g n w).mono fun e w' ⟨h1, h2⟩ => ⟨by rw [h1, h]; obtain ⟨k, rfl⟩ : ∃ k, p = k + 1 := ⟨p - 1, by omega⟩; rfl, h2⟩
theorem or_l {x n : Nat} (h : U x) (k : n < 18446744073709551616 := by decide) : Go.bits .or .u64 (x : Int) (@OfNat.ofNat Int n _) = ((x ||| n : Nat) : Int) := or_nat x n h.lt k
theorem and_l {x n : Nat} (h : U x) (k : n < 18446744073709551616 := by decide) : Go.bits .and .u64 (x : Int) (@OfNat.ofNat Int n _) = ((x &&& n : Nat) : Int) := and_nat x n h.lt k
theorem minus_l {x n : Nat} (h : U x) (k : n < 18446744073709551616 := by decide) : Go.bits .andNot .u64 (x : Int) (@OfNat.ofNat Int n _) = ((minus x n : Nat) : Int) := andNot_nat x n h.lt k

def pendW (s : VS) : Nat := s.r 5 ||| s.r 6
theorem pend_ok {s : VS} (h : s.ok) : U (pendW s) := (h 5).or (h 6)
set_option maxHeartbeats 8000000 in
theorem is_c (g : Nat) (s : VS) (b : Int) (w : World) (hI : St FT w g s) (hs : s.ok) :
    Calls Try.prog 28 #[.pointer (some ⟨g, 0, none⟩), .int .i64 b] w fun e w' => e = .returned (.bool (bitW (s.r 1) b)) ∧ ∃ m, w' = w.drewN m := by
  have c1 := hI.c 1
  go_enter Try.func28, Try.ntmps28
  go_wp2_with (go_at_call 51; refine (bit_c _ _ _ (hs 1)).mono ?_; rintro e w' ⟨rfl, m, rfl⟩)
  go_ret
  exact ⟨rfl, _, rfl⟩

def readW (s : VS) (n : Int) : Nat :=
  if n = 768 then s.r 1 ||| 42949672960 else if n = 256 then (s.r 1 &&& 786722) ||| 8589934592 else if n = 769 then 9223372036856090881
  else if n = 836 then pendW s else if n = 324 then pendW s &&& s.r 3 else if n = 260 then s.r 4 &&& s.r 3 else if placeW n = 0 then 0 else s.r (placeW n)
theorem readW_ok {s : VS} (h : s.ok) (n : Int) : U (readW s n) := by
  unfold readW; repeat' split
  · exact (h 1).or U.num
  · exact (h 1).and.or U.num
  · exact U.num
  · exact pend_ok h
  · exact (pend_ok h).and
  · exact (h 4).and
  · exact U.num
  · exact h _
def rawW (s : VS) (n : Int) : Nat :=
  if n = 836 then s.r 5 ||| minus (s.r 6) 546 else if n = 324 then (s.r 5 ||| minus (s.r 6) 546) &&& s.r 3 else readW s n
/-- The status with other bits. -/
def statusW (s : VS) (w mask : Nat) : VS :=
  if getW w 11 2 = 2 then s.set 1 (minus (s.r 1) (minus mask 6144) ||| (w &&& minus mask 6144)) else s.set 1 (minus (s.r 1) mask ||| (w &&& mask))
theorem statusW_ok {s : VS} (h : s.ok) {w : Nat} (hw : U w) (mask : Nat) : (statusW s w mask).ok := by
  unfold statusW; split
  · exact VS.set_ok h _ ((h 1).minus.or hw.and)
  · exact VS.set_ok h _ ((h 1).minus.or hw.and)
theorem nat_beq (a : Nat) (b : Nat) : (((a : Nat) : Int) == ((b : Nat) : Int)) = (a == b) := by
  rw [Bool.eq_iff_iff, beq_iff_eq, beq_iff_eq]; omega
set_option maxHeartbeats 8000000 in
set_option maxRecDepth 100000 in
theorem status_c (g : Nat) (s : VS) (x mask : Nat) (w : World) (hI : St FT w g s) (hs : s.ok) (hx : U x) (hm : U mask) :
    Calls Try.prog 67 #[.pointer (some ⟨g, 0, none⟩), .int .u64 (x : Int), .int .u64 (mask : Int)] w fun e w' => e = .returned (.tuple #[]) ∧ St FT w' g (statusW s x mask) ∧ Kp w w' (fun i => i = g) := by
  have c1 := hI.c 1
  have f1 := hI.f 1
  by_cases hg : getW x 11 2 = 2
  · have hb : (((getW x 11 2 : Nat) : Int) == 2) = true := by rw [hg]; rfl
    have e1 : Go.bits .andNot .u64 (mask : Int) 6144 = ((minus mask 6144 : Nat) : Int) := minus_l hm
    have e2 : Go.bits .andNot .u64 (s.r 1 : Int) ((minus mask 6144 : Nat) : Int) = ((minus (s.r 1) (minus mask 6144) : Nat) : Int) := minus_c (hs 1) hm.minus
    have e3 : Go.bits .and .u64 (x : Int) ((minus mask 6144 : Nat) : Int) = ((x &&& minus mask 6144 : Nat) : Int) := and_c hx hm.minus
    have e4 := or_c (hs 1).minus (y := x &&& minus mask 6144) hx.and (x := minus (s.r 1) (minus mask 6144))
    have Hg := Aside0.mk hg
    clear hg
    go_enter Try.func67, Try.ntmps67
    go_wp2_with (go_at_call 32; refine (get_c _ _ _ _ hx).mono ?_; rintro e w' ⟨rfl, m, rfl⟩)
    repeat (go_region; try go_wp2)
    first | go_end0 | ((try simp only [Exit.inBlock, Exit.then]); refine bodyPost_ret (results_none rfl _ _ _) rfl ?_)
    exact ⟨rfl, by unfold statusW; rw [if_pos Hg.out]; exact (by repeat (first | with_reducible exact hI | apply St.drewN | apply St.drew | apply St.alloc | refine St.set0 ?_ _ | refine St.set ?_ _ _)), (by repeat (first | with_reducible exact Kp.refl _ _ | apply Kp.drewN | apply Kp.drew | apply Kp.alloc | refine Kp.setCell ?_ (by first | exact .inl rfl | omega) _))⟩
  · have hb : (((getW x 11 2 : Nat) : Int) == 2) = false := by rw [beq_eq_false_iff_ne]; omega
    have e2 : Go.bits .andNot .u64 (s.r 1 : Int) (mask : Int) = ((minus (s.r 1) mask : Nat) : Int) := minus_c (hs 1) hm
    have e3 : Go.bits .and .u64 (x : Int) (mask : Int) = ((x &&& mask : Nat) : Int) := and_c hx hm
    have e4 := or_c (hs 1).minus (y := x &&& mask) hx.and (x := minus (s.r 1) mask)
    have Hg := Aside0.mk hg
    clear hg
    go_enter Try.func67, Try.ntmps67
    go_wp2_with (go_at_call 32; refine (get_c _ _ _ _ hx).mono ?_; rintro e w' ⟨rfl, m, rfl⟩)
    repeat (go_region; try go_wp2)
    first | go_end0 | ((try simp only [Exit.inBlock, Exit.then]); refine bodyPost_ret (results_none rfl _ _ _) rfl ?_)
    exact ⟨rfl, by unfold statusW; rw [if_neg Hg.out]; exact (by repeat (first | with_reducible exact hI | apply St.drewN | apply St.drew | apply St.alloc | refine St.set0 ?_ _ | refine St.set ?_ _ _)), (by repeat (first | with_reducible exact Kp.refl _ _ | apply Kp.drewN | apply Kp.drew | apply Kp.alloc | refine Kp.setCell ?_ (by first | exact .inl rfl | omega) _))⟩

def vectorW (old w : Nat) : Nat := if w &&& 2 = 0 then w else old
set_option maxHeartbeats 8000000 in
set_option maxRecDepth 100000 in
theorem vector_c (old x : Nat) (w : World) (hx : U x) :
    Calls Try.prog 79 #[.int .u64 (old : Int), .int .u64 (x : Int)] w fun e w' => e = .returned (.int .u64 ((vectorW old x : Nat) : Int)) ∧ w' = w := by
  have e1 : Go.bits .and .u64 (x : Int) 2 = ((x &&& 2 : Nat) : Int) := and_l hx
  by_cases hg : x &&& 2 = 0
  · have hb : ((((x &&& 2 : Nat) : Int)) != 0) = false := by rw [hg]; rfl
    have Hg := Aside0.mk hg
    clear hg
    go_enter Try.func79, Try.ntmps79
    go_wp2
    go_ret
    exact ⟨by unfold vectorW; rw [if_pos Hg.out] <;> rfl, rfl⟩
  · have hb : ((((x &&& 2 : Nat) : Int)) != 0) = true := by rw [bne_iff_ne]; omega
    have Hg := Aside0.mk hg
    clear hg
    go_enter Try.func79, Try.ntmps79
    go_wp2
    go_ret
    exact ⟨by unfold vectorW; rw [if_neg Hg.out] <;> rfl, rfl⟩
theorem vectorW_ok {old x : Nat} (h : U old) (k : U x) : U (vectorW old x) := by unfold vectorW; split; exact k; exact h

def legalW (n : Int) (old w : Nat) : Nat :=
  if n = 770 then w &&& 46079 else if n = 771 then w &&& 546 else if n = 772 then w &&& 2730 else if n = 773 ∨ n = 261 then vectorW old w
  else if n = 774 ∨ n = 262 then w &&& 7 else if n = 833 ∨ n = 321 then minus w 3 else if n = 384 then (if getW w 60 4 = 0 ∨ getW w 60 4 = 8 then w else old) else w
theorem legalW_ok (n : Int) {old x : Nat} (h : U old) (k : U x) : U (legalW n old x) := by
  unfold legalW; repeat' split
  all_goals first | exact k.and | exact k.minus | exact k | exact h | exact vectorW_ok h k
set_option maxHeartbeats 8000000 in
set_option maxRecDepth 100000 in
theorem legal_c (n : Int) (old x : Nat) (w : World) (hx : U x) :
    Calls Try.prog 69 #[.int .i64 n, .int .u64 (old : Int), .int .u64 (x : Int)] w fun e w' => e = .returned (.int .u64 ((legalW n old x : Nat) : Int)) ∧ ∃ m, w' = w.drewN m := by
  have e1 : Go.bits .and .u64 (x : Int) 46079 = ((x &&& 46079 : Nat) : Int) := and_l hx
  have e2 : Go.bits .and .u64 (x : Int) 546 = ((x &&& 546 : Nat) : Int) := and_l hx
  have e3 : Go.bits .and .u64 (x : Int) 2730 = ((x &&& 2730 : Nat) : Int) := and_l hx
  have e4 : Go.bits .and .u64 (x : Int) 7 = ((x &&& 7 : Nat) : Int) := and_l hx
  have e5 : Go.bits .andNot .u64 (x : Int) 3 = ((minus x 3 : Nat) : Int) := minus_l hx
  by_cases h0 : getW x 60 4 = 0
  · have b0 : (((getW x 60 4 : Nat) : Int) != 0) = false := by rw [h0]; rfl
    have H0 := Aside0.mk h0
    clear h0
    go_enter Try.func69, Try.ntmps69
    go_wp2_with (first | (go_at_call 32; refine (get_c _ _ _ _ hx).mono ?_; rintro e w' ⟨rfl, m, rfl⟩) | (go_at_call 79; refine (vector_c _ _ _ hx).mono ?_; rintro e w' ⟨rfl, rfl⟩))
    all_goals (try (repeat (go_quiet (fail); try go_wp2)))
    all_goals go_ret
    all_goals (have h0 := H0.out; refine ⟨congrArg Ending.returned ?_, (by first | exact ⟨_, rfl⟩ | exact ⟨0, rfl⟩)⟩; simp only [beq_iff_eq, beq_eq_false_iff_ne] at *; simp [legalW, *])
  · by_cases h8 : getW x 60 4 = 8
    · have b0 : (((getW x 60 4 : Nat) : Int) != 0) = true := by rw [h8]; rfl
      have b8 : (((getW x 60 4 : Nat) : Int) != 8) = false := by rw [h8]; rfl
      have H0 := Aside0.mk h0
      have H8 := Aside0.mk h8
      clear h0 h8
      go_enter Try.func69, Try.ntmps69
      go_wp2_with (first | (go_at_call 32; refine (get_c _ _ _ _ hx).mono ?_; rintro e w' ⟨rfl, m, rfl⟩) | (go_at_call 79; refine (vector_c _ _ _ hx).mono ?_; rintro e w' ⟨rfl, rfl⟩))
      all_goals (try (repeat (go_quiet (fail); try go_wp2)))
      all_goals go_ret
      all_goals (have h8 := H8.out; refine ⟨congrArg Ending.returned ?_, (by first | exact ⟨_, rfl⟩ | exact ⟨0, rfl⟩)⟩; simp only [beq_iff_eq, beq_eq_false_iff_ne] at *; simp [legalW, *])
    · have b0 : (((getW x 60 4 : Nat) : Int) != 0) = true := by rw [bne_iff_ne]; omega
      have b8 : (((getW x 60 4 : Nat) : Int) != 8) = true := by rw [bne_iff_ne]; omega
      have H0 := Aside0.mk h0
      have H8 := Aside0.mk h8
      clear h0 h8
      go_enter Try.func69, Try.ntmps69
      go_wp2_with (first | (go_at_call 32; refine (get_c _ _ _ _ hx).mono ?_; rintro e w' ⟨rfl, m, rfl⟩) | (go_at_call 79; refine (vector_c _ _ _ hx).mono ?_; rintro e w' ⟨rfl, rfl⟩))
      all_goals (try (repeat (go_quiet (fail); try go_wp2)))
      all_goals go_ret
      all_goals (have h0 := H0.out; have h8 := H8.out; refine ⟨congrArg Ending.returned ?_, (by first | exact ⟨_, rfl⟩ | exact ⟨0, rfl⟩)⟩; simp only [beq_iff_eq, beq_eq_false_iff_ne] at *; simp [legalW, *])
end Go.Proofs.Ytlhdildnekllhaa.H
