/- The control registers and the reference that begins with them. -/
import Derived.Test.YtlhdildnekllhaaTb
import Derived.Test.YtlhdildnekllhaaS1
import Derived.Outline
import Derived.StillTailTactics
import Derived.Deep.RegionWith
import Derived.Test.YtlhdildnekllhaaTc
import Derived.Laws.StructEq
/- The hart's registers (package csr), walked by hand: what each method answers, and what it leaves. -/
namespace Go.Proofs.Ytlhdildnekllhaa.H
open Go.RowKit Go.Proofs.YtlhdildnekllhaaW.PrintWords Go.Proofs.YtlhdildnekllhaaW.PrintLast Go.Proofs.Ytlhdildnekllhaa.PAl Go.Proofs.Ytlhdildnekllhaa.Pure Go.Proofs.Ytlhdildnekllhaa.Vw
set_option linter.unusedVariables false
set_option linter.unusedSimpArgs false
abbrev FT : TypeId := 54

def superW (n : Int) : Nat :=
  if n = 261 then 13 else if n = 262 then 14 else if n = 320 then 15 else if n = 321 then 16 else if n = 322 then 17 else if n = 323 then 18 else if n = 384 then 19 else if n = 3073 then 22 else 0
def placeW (n : Int) : Nat :=
  if n = 770 then 2 else if n = 771 then 3 else if n = 772 then 4 else if n = 773 then 7 else if n = 774 then 8 else if n = 832 then 9 else if n = 833 then 10 else if n = 834 then 11 else if n = 835 then 12 else if n = 2816 ∨ n = 3072 then 20 else if n = 2818 ∨ n = 3074 then 21 else superW n
theorem superW_le (n : Int) : superW n ≤ 22 := by
  unfold superW; repeat' split
  all_goals decide
theorem placeW_le (n : Int) : placeW n ≤ 22 := by
  unfold placeW; repeat' split
  all_goals first | exact superW_le n | decide
def ptrO (g : Nat) : Nat → Value
  | 0 => .pointer none
  | k + 1 => .pointer (some ⟨g, k + 1, none⟩)
set_option maxHeartbeats 8000000 in
set_option maxRecDepth 100000 in
theorem super_c (g : Nat) (n : Int) (w : World) :
    Calls Try.prog 78 #[.pointer (some ⟨g, 0, none⟩), .int .i64 n] w fun e w' => e = .returned (ptrO g (superW n)) ∧ w' = w := by
  go_enter Try.func78, Try.ntmps78
  go_wp2
  all_goals go_ret
  all_goals (refine ⟨congrArg Ending.returned ?_, rfl⟩; simp only [beq_iff_eq, beq_eq_false_iff_ne] at *; simp [superW, ptrO, *])
set_option maxHeartbeats 8000000 in
set_option maxRecDepth 100000 in
theorem place_c (g : Nat) (n : Int) (w : World) :
    Calls Try.prog 68 #[.pointer (some ⟨g, 0, none⟩), .int .i64 n] w fun e w' => e = .returned (ptrO g (placeW n)) ∧ w' = w := by
  go_enter Try.func68, Try.ntmps68
  go_wp2_with (go_at_call 78; refine (super_c _ _ _).mono ?_; rintro e w' ⟨rfl, rfl⟩)
  all_goals go_ret
  all_goals (refine ⟨congrArg Ending.returned ?_, rfl⟩; simp only [beq_iff_eq, beq_eq_false_iff_ne] at *; simp [placeW, ptrO, *])
theorem place_nil (g : Nat) (n : Int) (w : World) (h : placeW n = 0) :
    Calls Try.prog 68 #[.pointer (some ⟨g, 0, none⟩), .int .i64 n] w fun e w' => e = .returned (.pointer none) ∧ w' = w :=
  (place_c g n w).mono fun e w' ⟨h1, h2⟩ => ⟨by rw [h1, h]; rfl, h2⟩
theorem place_some (g : Nat) (n : Int) (w : World) (p : Nat) (h : placeW n = p) (hp : 1 ≤ p) :
    Calls Try.prog 68 #[.pointer (some ⟨g, 0, none⟩), .int .i64 n] w fun e w' => e = .returned (.pointer (some ⟨g, p, none⟩)) ∧ w' = w :=
  (place_c g n w).mono fun e w' ⟨h1, h2⟩ => ⟨by rw [h1, h]; obtain ⟨k, rfl⟩ : ∃ k, p = k + 1 := ⟨p - 1, by omega⟩; rfl, h2⟩
theorem or_l {x n : Nat} (h : U x) (k : n < 18446744073709551616 := by decide) : Go.bits .or .u64 (x : Int) (@OfNat.ofNat Int n _) = ((x ||| n : Nat) : Int) := or_nat x n h.lt k
theorem and_l {x n : Nat} (h : U x) (k : n < 18446744073709551616 := by decide) : Go.bits .and .u64 (x : Int) (@OfNat.ofNat Int n _) = ((x &&& n : Nat) : Int) := and_nat x n h.lt k
theorem minus_l {x n : Nat} (h : U x) (k : n < 18446744073709551616 := by decide) : Go.bits .andNot .u64 (x : Int) (@OfNat.ofNat Int n _) = ((minus x n : Nat) : Int) := andNot_nat x n h.lt k

def pendW (s : VS) : Nat := s.r 5 ||| s.r 6
theorem pend_ok {s : VS} (h : s.ok) : U (pendW s) := (h 5).or (h 6)
set_option maxHeartbeats 8000000 in
theorem is_c (g : Nat) (s : VS) (b : Int) (w : World) (hI : St FT w g s) (hs : s.ok) :
    Calls Try.prog 28 #[.pointer (some ⟨g, 0, none⟩), .int .i64 b] w fun e w' => e = .returned (.bool (bitW (s.r 1) b)) ∧ ∃ m, w' = w.drewN m := by
  have c1 := hI.c 1
  go_enter Try.func28, Try.ntmps28
  go_wp2_with (go_at_call 51; refine (bit_c _ _ _ (hs 1)).mono ?_; rintro e w' ⟨rfl, m, rfl⟩)
  go_ret
  exact ⟨rfl, _, rfl⟩

def readW (s : VS) (n : Int) : Nat :=
  if n = 768 then s.r 1 ||| 42949672960 else if n = 256 then (s.r 1 &&& 786722) ||| 8589934592 else if n = 769 then 9223372036856090881
  else if n = 836 then pendW s else if n = 324 then pendW s &&& s.r 3 else if n = 260 then s.r 4 &&& s.r 3 else if placeW n = 0 then 0 else s.r (placeW n)
theorem readW_ok {s : VS} (h : s.ok) (n : Int) : U (readW s n) := by
  unfold readW; repeat' split
  · exact (h 1).or U.num
  · exact (h 1).and.or U.num
  · exact U.num
  · exact pend_ok h
  · exact (pend_ok h).and
  · exact (h 4).and
  · exact U.num
  · exact h _
def rawW (s : VS) (n : Int) : Nat :=
  if n = 836 then s.r 5 ||| minus (s.r 6) 546 else if n = 324 then (s.r 5 ||| minus (s.r 6) 546) &&& s.r 3 else readW s n
/-- The status with other bits. -/
def statusW (s : VS) (w mask : Nat) : VS :=
  if getW w 11 2 = 2 then s.set 1 (minus (s.r 1) (minus mask 6144) ||| (w &&& minus mask 6144)) else s.set 1 (minus (s.r 1) mask ||| (w &&& mask))
theorem statusW_ok {s : VS} (h : s.ok) {w : Nat} (hw : U w) (mask : Nat) : (statusW s w mask).ok := by
  unfold statusW; split
  · exact VS.set_ok h _ ((h 1).minus.or hw.and)
  · exact VS.set_ok h _ ((h 1).minus.or hw.and)
theorem nat_beq (a : Nat) (b : Nat) : (((a : Nat) : Int) == ((b : Nat) : Int)) = (a == b) := by
  rw [Bool.eq_iff_iff, beq_iff_eq, beq_iff_eq]; omega
set_option maxHeartbeats 8000000 in
set_option maxRecDepth 100000 in
theorem status_c (g : Nat) (s : VS) (x mask : Nat) (w : World) (hI : St FT w g s) (hs : s.ok) (hx : U x) (hm : U mask) :
    Calls Try.prog 67 #[.pointer (some ⟨g, 0, none⟩), .int .u64 (x : Int), .int .u64 (mask : Int)] w fun e w' => e = .returned (.tuple #[]) ∧ St FT w' g (statusW s x mask) ∧ Kp w w' (fun i => i = g) := by
  have c1 := hI.c 1
  have f1 := hI.f 1
  by_cases hg : getW x 11 2 = 2
  · have hb : (((getW x 11 2 : Nat) : Int) == 2) = true := by rw [hg]; rfl
    have e1 : Go.bits .andNot .u64 (mask : Int) 6144 = ((minus mask 6144 : Nat) : Int) := minus_l hm
    have e2 : Go.bits .andNot .u64 (s.r 1 : Int) ((minus mask 6144 : Nat) : Int) = ((minus (s.r 1) (minus mask 6144) : Nat) : Int) := minus_c (hs 1) hm.minus
    have e3 : Go.bits .and .u64 (x : Int) ((minus mask 6144 : Nat) : Int) = ((x &&& minus mask 6144 : Nat) : Int) := and_c hx hm.minus
    have e4 := or_c (hs 1).minus (y := x &&& minus mask 6144) hx.and (x := minus (s.r 1) (minus mask 6144))
    have Hg := Aside0.mk hg
    clear hg
    go_enter Try.func67, Try.ntmps67
    go_wp2_with (go_at_call 32; refine (get_c _ _ _ _ hx).mono ?_; rintro e w' ⟨rfl, m, rfl⟩)
    repeat (go_region; try go_wp2)
    first | go_end0 | ((try simp only [Exit.inBlock, Exit.then]); refine bodyPost_ret (results_none rfl _ _ _) rfl ?_)
    exact ⟨rfl, by unfold statusW; rw [if_pos Hg.out]; exact (by repeat (first | with_reducible exact hI | apply St.drewN | apply St.drew | apply St.alloc | refine St.set0 ?_ _ | refine St.set ?_ _ _)), (by repeat (first | with_reducible exact Kp.refl _ _ | apply Kp.drewN | apply Kp.drew | apply Kp.alloc | refine Kp.setCell ?_ (by first | exact .inl rfl | omega) _))⟩
  · have hb : (((getW x 11 2 : Nat) : Int) == 2) = false := by rw [beq_eq_false_iff_ne]; omega
    have e2 : Go.bits .andNot .u64 (s.r 1 : Int) (mask : Int) = ((minus (s.r 1) mask : Nat) : Int) := minus_c (hs 1) hm
    have e3 : Go.bits .and .u64 (x : Int) (mask : Int) = ((x &&& mask : Nat) : Int) := and_c hx hm
    have e4 := or_c (hs 1).minus (y := x &&& mask) hx.and (x := minus (s.r 1) mask)
    have Hg := Aside0.mk hg
    clear hg
    go_enter Try.func67, Try.ntmps67
    go_wp2_with (go_at_call 32; refine (get_c _ _ _ _ hx).mono ?_; rintro e w' ⟨rfl, m, rfl⟩)
    repeat (go_region; try go_wp2)
    first | go_end0 | ((try simp only [Exit.inBlock, Exit.then]); refine bodyPost_ret (results_none rfl _ _ _) rfl ?_)
    exact ⟨rfl, by unfold statusW; rw [if_neg Hg.out]; exact (by repeat (first | with_reducible exact hI | apply St.drewN | apply St.drew | apply St.alloc | refine St.set0 ?_ _ | refine St.set ?_ _ _)), (by repeat (first | with_reducible exact Kp.refl _ _ | apply Kp.drewN | apply Kp.drew | apply Kp.alloc | refine Kp.setCell ?_ (by first | exact .inl rfl | omega) _))⟩

def vectorW (old w : Nat) : Nat := if w &&& 2 = 0 then w else old
set_option maxHeartbeats 8000000 in
set_option maxRecDepth 100000 in
theorem vector_c (old x : Nat) (w : World) (hx : U x) :
    Calls Try.prog 79 #[.int .u64 (old : Int), .int .u64 (x : Int)] w fun e w' => e = .returned (.int .u64 ((vectorW old x : Nat) : Int)) ∧ w' = w := by
  have e1 : Go.bits .and .u64 (x : Int) 2 = ((x &&& 2 : Nat) : Int) := and_l hx
  by_cases hg : x &&& 2 = 0
  · have hb : ((((x &&& 2 : Nat) : Int)) != 0) = false := by rw [hg]; rfl
    have Hg := Aside0.mk hg
    clear hg
    go_enter Try.func79, Try.ntmps79
    go_wp2
    go_ret
    exact ⟨by unfold vectorW; rw [if_pos Hg.out] <;> rfl, rfl⟩
  · have hb : ((((x &&& 2 : Nat) : Int)) != 0) = true := by rw [bne_iff_ne]; omega
    have Hg := Aside0.mk hg
    clear hg
    go_enter Try.func79, Try.ntmps79
    go_wp2
    go_ret
    exact ⟨by unfold vectorW; rw [if_neg Hg.out] <;> rfl, rfl⟩
theorem vectorW_ok {old x : Nat} (h : U old) (k : U x) : U (vectorW old x) := by unfold vectorW; split; exact k; exact h

def legalW (n : Int) (old w : Nat) : Nat :=
  if n = 770 then w &&& 46079 else if n = 771 then w &&& 546 else if n = 772 then w &&& 2730 else if n = 773 ∨ n = 261 then vectorW old w
  else if n = 774 ∨ n = 262 then w &&& 7 else if n = 833 ∨ n = 321 then minus w 3 else if n = 384 then (if getW w 60 4 = 0 ∨ getW w 60 4 = 8 then w else old) else w
theorem legalW_ok (n : Int) {old x : Nat} (h : U old) (k : U x) : U (legalW n old x) := by
  unfold legalW; repeat' split
  all_goals first | exact k.and | exact k.minus | exact k | exact h | exact vectorW_ok h k
set_option maxHeartbeats 8000000 in
set_option maxRecDepth 100000 in
theorem legal_c (n : Int) (old x : Nat) (w : World) (hx : U x) :
    Calls Try.prog 69 #[.int .i64 n, .int .u64 (old : Int), .int .u64 (x : Int)] w fun e w' => e = .returned (.int .u64 ((legalW n old x : Nat) : Int)) ∧ ∃ m, w' = w.drewN m := by
  have e1 : Go.bits .and .u64 (x : Int) 46079 = ((x &&& 46079 : Nat) : Int) := and_l hx
  have e2 : Go.bits .and .u64 (x : Int) 546 = ((x &&& 546 : Nat) : Int) := and_l hx
  have e3 : Go.bits .and .u64 (x : Int) 2730 = ((x &&& 2730 : Nat) : Int) := and_l hx
  have e4 : Go.bits .and .u64 (x : Int) 7 = ((x &&& 7 : Nat) : Int) := and_l hx
  have e5 : Go.bits .andNot .u64 (x : Int) 3 = ((minus x 3 : Nat) : Int) := minus_l hx
  by_cases h0 : getW x 60 4 = 0
  · have b0 : (((getW x 60 4 : Nat) : Int) != 0) = false := by rw [h0]; rfl
    have H0 := Aside0.mk h0
    clear h0
    go_enter Try.func69, Try.ntmps69
    go_wp2_with (first | (go_at_call 32; refine (get_c _ _ _ _ hx).mono ?_; rintro e w' ⟨rfl, m, rfl⟩) | (go_at_call 79; refine (vector_c _ _ _ hx).mono ?_; rintro e w' ⟨rfl, rfl⟩))
    all_goals (try (repeat (go_quiet (fail); try go_wp2)))
    all_goals go_ret
    all_goals (have h0 := H0.out; refine ⟨congrArg Ending.returned ?_, (by first | exact ⟨_, rfl⟩ | exact ⟨0, rfl⟩)⟩; simp only [beq_iff_eq, beq_eq_false_iff_ne] at *; simp [legalW, *])
  · by_cases h8 : getW x 60 4 = 8
    · have b0 : (((getW x 60 4 : Nat) : Int) != 0) = true := by rw [h8]; rfl
      have b8 : (((getW x 60 4 : Nat) : Int) != 8) = false := by rw [h8]; rfl
      have H0 := Aside0.mk h0
      have H8 := Aside0.mk h8
      clear h0 h8
      go_enter Try.func69, Try.ntmps69
      go_wp2_with (first | (go_at_call 32; refine (get_c _ _ _ _ hx).mono ?_; rintro e w' ⟨rfl, m, rfl⟩) | (go_at_call 79; refine (vector_c _ _ _ hx).mono ?_; rintro e w' ⟨rfl, rfl⟩))
      all_goals (try (repeat (go_quiet (fail); try go_wp2)))
      all_goals go_ret
      all_goals (have h8 := H8.out; refine ⟨congrArg Ending.returned ?_, (by first | exact ⟨_, rfl⟩ | exact ⟨0, rfl⟩)⟩; simp only [beq_iff_eq, beq_eq_false_iff_ne] at *; simp [legalW, *])
    · have b0 : (((getW x 60 4 : Nat) : Int) != 0) = true := by rw [bne_iff_ne]; omega
      have b8 : (((getW x 60 4 : Nat) : Int) != 8) = true := by rw [bne_iff_ne]; omega
      have H0 := Aside0.mk h0
      have H8 := Aside0.mk h8
      clear h0 h8
      go_enter Try.func69, Try.ntmps69
      go_wp2_with (first | (go_at_call 32; refine (get_c _ _ _ _ hx).mono ?_; rintro e w' ⟨rfl, m, rfl⟩) | (go_at_call 79; refine (vector_c _ _ _ hx).mono ?_; rintro e w' ⟨rfl, rfl⟩))
      all_goals (try (repeat (go_quiet (fail); try go_wp2)))
      all_goals go_ret
      all_goals (have h0 := H0.out; have h8 := H8.out; refine ⟨congrArg Ending.returned ?_, (by first | exact ⟨_, rfl⟩ | exact ⟨0, rfl⟩)⟩; simp only [beq_iff_eq, beq_eq_false_iff_ne] at *; simp [legalW, *])
end Go.Proofs.Ytlhdildnekllhaa.H
/- The hart's registers (package csr), walked by hand: the methods that write, and who may. -/
namespace Go.Proofs.Ytlhdildnekllhaa.H
open Go.RowKit Go.Proofs.YtlhdildnekllhaaW.PrintWords Go.Proofs.YtlhdildnekllhaaW.PrintLast Go.Proofs.Ytlhdildnekllhaa.PAl Go.Proofs.Ytlhdildnekllhaa.Pure Go.Proofs.Ytlhdildnekllhaa.Vw
set_option linter.unusedVariables false
set_option linter.unusedSimpArgs false
abbrev KpG (w w' : World) (g : Nat) : Prop := Kp w w' (fun i => i = g)
theorem beq_no {n k : Int} (h : n ≠ k) : (n == k) = false := beq_eq_false_iff_ne.2 h
theorem status_l (g : Nat) (s : VS) (x n : Nat) (w : World) (hI : St FT w g s) (hs : s.ok) (hx : U x) (hm : n < 18446744073709551616) :
    Calls Try.prog 67 #[.pointer (some ⟨g, 0, none⟩), .int .u64 (x : Int), .int .u64 (@OfNat.ofNat Int n instOfNat)] w fun e w' => e = .returned (.tuple #[]) ∧ St FT w' g (statusW s x n) ∧ Kp w w' (fun i => i = g) :=
  status_c g s x n w hI hs hx ⟨hm⟩
def ownW (s : VS) : Nat := s.r 3 &&& 2
def writeW (s : VS) (n : Int) (x : Nat) : VS :=
  if n = 768 then statusW s x 8264106 else if n = 256 then statusW s x 786722 else if n = 836 then s.set 5 (x &&& 546)
  else if n = 324 then s.set 5 (minus (s.r 5) (ownW s) ||| (x &&& ownW s)) else if n = 260 then s.set 4 (minus (s.r 4) (s.r 3) ||| (x &&& s.r 3))
  else if n = 3072 ∨ n = 3073 ∨ n = 3074 then s else if placeW n = 0 then s else s.set (placeW n) (legalW n (s.r (placeW n)) x)
theorem writeW_ok {s : VS} (h : s.ok) (n : Int) {x : Nat} (hx : U x) : (writeW s n x).ok := by
  unfold writeW; repeat' split
  · exact statusW_ok h hx _
  · exact statusW_ok h hx _
  · exact VS.set_ok h _ hx.and
  · exact VS.set_ok h _ ((h 5).minus.or hx.and)
  · exact VS.set_ok h _ ((h 4).minus.or hx.and)
  · exact h
  · exact h
  · exact VS.set_ok h _ (legalW_ok n (h _) hx)
set_option maxHeartbeats 8000000 in
set_option maxRecDepth 100000 in
theorem write_c1 (g : Nat) (s : VS) (x : Nat) (w : World) (hI : St FT w g s) (hs : s.ok) (hx : U x) :
    Calls Try.prog 42 #[.pointer (some ⟨g, 0, none⟩), .int .i64 768, .int .u64 (x : Int)] w fun e w' => e = .returned (.tuple #[]) ∧ St FT w' g (writeW s 768 x) ∧ KpG w w' g := by
  go_enter Try.func42, Try.ntmps42
  go_wp2_with (go_at_call 67; refine (status_l _ s _ _ _ hI hs hx (by decide)).mono ?_; rintro e w' ⟨rfl, hS, hK⟩)
  first | go_end0 | ((try simp only [Exit.inBlock, Exit.then]); refine bodyPost_ret (results_none rfl _ _ _) rfl ?_)
  exact ⟨rfl, hS, hK⟩
set_option maxHeartbeats 8000000 in
set_option maxRecDepth 100000 in
theorem write_c2 (g : Nat) (s : VS) (x : Nat) (w : World) (hI : St FT w g s) (hs : s.ok) (hx : U x) :
    Calls Try.prog 42 #[.pointer (some ⟨g, 0, none⟩), .int .i64 256, .int .u64 (x : Int)] w fun e w' => e = .returned (.tuple #[]) ∧ St FT w' g (writeW s 256 x) ∧ KpG w w' g := by
  go_enter Try.func42, Try.ntmps42
  go_wp2_with (go_at_call 67; refine (status_l _ s _ _ _ hI hs hx (by decide)).mono ?_; rintro e w' ⟨rfl, hS, hK⟩)
  first | go_end0 | ((try simp only [Exit.inBlock, Exit.then]); refine bodyPost_ret (results_none rfl _ _ _) rfl ?_)
  exact ⟨rfl, hS, hK⟩
set_option maxHeartbeats 8000000 in
set_option maxRecDepth 100000 in
theorem write_c3 (g : Nat) (s : VS) (x : Nat) (w : World) (hI : St FT w g s) (hs : s.ok) (hx : U x) :
    Calls Try.prog 42 #[.pointer (some ⟨g, 0, none⟩), .int .i64 836, .int .u64 (x : Int)] w fun e w' => e = .returned (.tuple #[]) ∧ St FT w' g (writeW s 836 x) ∧ KpG w w' g := by
  have f5 := hI.f 5
  have c5 := hI.c 5
  have e1 : Go.bits .and .u64 (x : Int) 546 = ((x &&& 546 : Nat) : Int) := and_l hx
  go_enter Try.func42, Try.ntmps42
  go_wp2
  repeat (go_region; try go_wp2)
  first | go_end0 | ((try simp only [Exit.inBlock, Exit.then]); refine bodyPost_ret (results_none rfl _ _ _) rfl ?_)
  exact ⟨rfl, (by repeat (first | with_reducible exact hI | apply St.drewN | apply St.drew | apply St.alloc | refine St.set0 ?_ _ | refine St.set ?_ _ _)), (by repeat (first | with_reducible exact Kp.refl _ _ | apply Kp.drewN | apply Kp.drew | apply Kp.alloc | refine Kp.setCell ?_ (by first | exact .inl rfl | omega) _))⟩
set_option maxHeartbeats 8000000 in
set_option maxRecDepth 100000 in
theorem write_c4 (g : Nat) (s : VS) (x : Nat) (w : World) (hI : St FT w g s) (hs : s.ok) (hx : U x) :
    Calls Try.prog 42 #[.pointer (some ⟨g, 0, none⟩), .int .i64 324, .int .u64 (x : Int)] w fun e w' => e = .returned (.tuple #[]) ∧ St FT w' g (writeW s 324 x) ∧ KpG w w' g := by
  have f5 := hI.f 5
  have c5 := hI.c 5
  have c3 := hI.c 3
  have ho : U (ownW s) := (hs 3).and
  have e0 : Go.bits .and .u64 (s.r 3 : Int) 2 = ((ownW s : Nat) : Int) := and_l (hs 3)
  have e1 : Go.bits .andNot .u64 (s.r 5 : Int) ((ownW s : Nat) : Int) = ((minus (s.r 5) (ownW s) : Nat) : Int) := minus_c (hs 5) ho
  have e2 : Go.bits .and .u64 (x : Int) ((ownW s : Nat) : Int) = ((x &&& ownW s : Nat) : Int) := and_c hx ho
  have e3 := or_c (x := minus (s.r 5) (ownW s)) (y := x &&& ownW s) (hs 5).minus hx.and
  go_enter Try.func42, Try.ntmps42
  go_wp2
  repeat (go_region; try go_wp2)
  first | go_end0 | ((try simp only [Exit.inBlock, Exit.then]); refine bodyPost_ret (results_none rfl _ _ _) rfl ?_)
  exact ⟨rfl, (by repeat (first | with_reducible exact hI | apply St.drewN | apply St.drew | apply St.alloc | refine St.set0 ?_ _ | refine St.set ?_ _ _)), (by repeat (first | with_reducible exact Kp.refl _ _ | apply Kp.drewN | apply Kp.drew | apply Kp.alloc | refine Kp.setCell ?_ (by first | exact .inl rfl | omega) _))⟩
set_option maxHeartbeats 8000000 in
set_option maxRecDepth 100000 in
theorem write_c5 (g : Nat) (s : VS) (x : Nat) (w : World) (hI : St FT w g s) (hs : s.ok) (hx : U x) :
    Calls Try.prog 42 #[.pointer (some ⟨g, 0, none⟩), .int .i64 260, .int .u64 (x : Int)] w fun e w' => e = .returned (.tuple #[]) ∧ St FT w' g (writeW s 260 x) ∧ KpG w w' g := by
  have f4 := hI.f 4
  have c4 := hI.c 4
  have c3 := hI.c 3
  have e1 : Go.bits .andNot .u64 (s.r 4 : Int) (s.r 3 : Int) = ((minus (s.r 4) (s.r 3) : Nat) : Int) := minus_c (hs 4) (hs 3)
  have e2 : Go.bits .and .u64 (x : Int) (s.r 3 : Int) = ((x &&& s.r 3 : Nat) : Int) := and_c hx (hs 3)
  have e3 := or_c (x := minus (s.r 4) (s.r 3)) (y := x &&& s.r 3) (hs 4).minus hx.and
  go_enter Try.func42, Try.ntmps42
  go_wp2
  repeat (go_region; try go_wp2)
  first | go_end0 | ((try simp only [Exit.inBlock, Exit.then]); refine bodyPost_ret (results_none rfl _ _ _) rfl ?_)
  exact ⟨rfl, (by repeat (first | with_reducible exact hI | apply St.drewN | apply St.drew | apply St.alloc | refine St.set0 ?_ _ | refine St.set ?_ _ _)), (by repeat (first | with_reducible exact Kp.refl _ _ | apply Kp.drewN | apply Kp.drew | apply Kp.alloc | refine Kp.setCell ?_ (by first | exact .inl rfl | omega) _))⟩
set_option maxHeartbeats 8000000 in
set_option maxRecDepth 100000 in
theorem write_c6 (g : Nat) (s : VS) (n : Int) (x : Nat) (w : World) (hI : St FT w g s) (hn : n = 3072 ∨ n = 3073 ∨ n = 3074) :
    Calls Try.prog 42 #[.pointer (some ⟨g, 0, none⟩), .int .i64 n, .int .u64 (x : Int)] w fun e w' => e = .returned (.tuple #[]) ∧ St FT w' g (writeW s n x) ∧ KpG w w' g := by
  rcases hn with rfl | rfl | rfl
  all_goals
    go_enter Try.func42, Try.ntmps42
    go_wp2
    first | go_end0 | ((try simp only [Exit.inBlock, Exit.then]); refine bodyPost_ret (results_none rfl _ _ _) rfl ?_)
    exact ⟨rfl, by rw [show writeW s _ x = s from rfl]; exact hI, Kp.refl _ _⟩
set_option maxHeartbeats 8000000 in
set_option maxRecDepth 100000 in
theorem write_c7 (g : Nat) (s : VS) (n : Int) (x : Nat) (w : World) (hI : St FT w g s) (hs : s.ok) (hx : U x) (h1 : n ≠ 768) (h2 : n ≠ 256) (h3 : n ≠ 836) (h4 : n ≠ 324) (h5 : n ≠ 260) (h6 : ¬ (n = 3072 ∨ n = 3073 ∨ n = 3074)) :
    Calls Try.prog 42 #[.pointer (some ⟨g, 0, none⟩), .int .i64 n, .int .u64 (x : Int)] w fun e w' => e = .returned (.tuple #[]) ∧ St FT w' g (writeW s n x) ∧ KpG w w' g := by
  have b1 := beq_no h1
  have b2 := beq_no h2
  have b3 := beq_no h3
  have b4 := beq_no h4
  have b5 := beq_no h5
  have b6 := beq_no (show n ≠ 3072 from fun e => h6 (.inl e))
  have b7 := beq_no (show n ≠ 3073 from fun e => h6 (.inr (.inl e)))
  have b8 := beq_no (show n ≠ 3074 from fun e => h6 (.inr (.inr e)))
  have HW : Aside0 (writeW s n x = if placeW n = 0 then s else s.set (placeW n) (legalW n (s.r (placeW n)) x)) := ⟨by
    unfold writeW; rw [if_neg h1, if_neg h2, if_neg h3, if_neg h4, if_neg h5, if_neg h6]⟩
  clear h1 h2 h3 h4 h5 h6
  by_cases hp : placeW n = 0
  · go_enter Try.func42, Try.ntmps42
    go_wp2_with (go_at_call 68; refine (place_nil _ _ _ hp).mono ?_; rintro e w' ⟨rfl, rfl⟩)
    first | go_end0 | ((try simp only [Exit.inBlock, Exit.then]); refine bodyPost_ret (results_none rfl _ _ _) rfl ?_)
    exact ⟨rfl, by rw [HW.out, if_pos hp]; exact hI, Kp.refl _ _⟩
  · obtain ⟨p, hpe⟩ : ∃ p, placeW n = p := ⟨_, rfl⟩
    have hp1 : 1 ≤ p := by omega
    have hp2 : p ≤ 22 := by have := placeW_le n; omega
    have cp := hI.c p hp1 hp2
    have fp := hI.f p
    have Hpe := Aside0.mk hpe
    clear hpe hp
    go_enter Try.func42, Try.ntmps42
    go_wp2_with (first | (go_at_call 68; refine (place_some _ _ _ p Hpe.out hp1).mono ?_; rintro e w' ⟨rfl, rfl⟩) | (go_at_call 69; refine (legal_c _ _ _ _ hx).mono ?_; rintro e w' ⟨rfl, m, rfl⟩))
    first | go_end0 | ((try simp only [Exit.inBlock, Exit.then]); refine bodyPost_ret (results_none rfl _ _ _) rfl ?_)
    exact ⟨rfl, by rw [HW.out, Hpe.out, if_neg (by omega)]; exact (hI.drewN m).set p _ hp1 hp2, (by repeat (first | with_reducible exact Kp.refl _ _ | apply Kp.drewN | apply Kp.drew | apply Kp.alloc | refine Kp.setCell ?_ (by first | exact .inl rfl | omega) _))⟩
theorem write_c (g : Nat) (s : VS) (n : Int) (x : Nat) (w : World) (hI : St FT w g s) (hs : s.ok) (hx : U x) :
    Calls Try.prog 42 #[.pointer (some ⟨g, 0, none⟩), .int .i64 n, .int .u64 (x : Int)] w fun e w' => e = .returned (.tuple #[]) ∧ St FT w' g (writeW s n x) ∧ KpG w w' g := by
  by_cases h1 : n = 768
  · subst h1; exact write_c1 g s x w hI hs hx
  by_cases h2 : n = 256
  · subst h2; exact write_c2 g s x w hI hs hx
  by_cases h3 : n = 836
  · subst h3; exact write_c3 g s x w hI hs hx
  by_cases h4 : n = 324
  · subst h4; exact write_c4 g s x w hI hs hx
  by_cases h5 : n = 260
  · subst h5; exact write_c5 g s x w hI hs hx
  by_cases h6 : n = 3072 ∨ n = 3073 ∨ n = 3074
  · exact write_c6 g s n x w hI h6
  · exact write_c7 g s n x w hI hs hx h1 h2 h3 h4 h5 h6
end Go.Proofs.Ytlhdildnekllhaa.H
/- The hart's registers (package csr), walked by hand: lines, bits of the status, who may, names. -/
namespace Go.Proofs.Ytlhdildnekllhaa.H
open Go.RowKit Go.Proofs.YtlhdildnekllhaaW.PrintWords Go.Proofs.YtlhdildnekllhaaW.PrintLast Go.Proofs.Ytlhdildnekllhaa.PAl Go.Proofs.Ytlhdildnekllhaa.Pure Go.Proofs.Ytlhdildnekllhaa.Vw
set_option linter.unusedVariables false
set_option linter.unusedSimpArgs false
set_option maxHeartbeats 8000000 in
set_option maxRecDepth 100000 in
theorem hold_c (g : Nat) (s : VS) (x : Nat) (w : World) (hI : St FT w g s) (hx : U x) :
    Calls Try.prog 44 #[.pointer (some ⟨g, 0, none⟩), .int .u64 (x : Int)] w fun e w' => e = .returned (.tuple #[]) ∧ St FT w' g (s.set 6 (x &&& 2696)) ∧ KpG w w' g := by
  have f6 := hI.f 6
  have c6 := hI.c 6
  have e1 : Go.bits .and .u64 (x : Int) 2696 = ((x &&& 2696 : Nat) : Int) := and_l hx
  go_enter Try.func44, Try.ntmps44
  go_wp2
  repeat (go_region; try go_wp2)
  first | go_end0 | ((try simp only [Exit.inBlock, Exit.then]); refine bodyPost_ret (results_none rfl _ _ _) rfl ?_)
  exact ⟨rfl, (by repeat (first | with_reducible exact hI | apply St.drewN | apply St.drew | apply St.alloc | refine St.set0 ?_ _ | refine St.set ?_ _ _)), (by repeat (first | with_reducible exact Kp.refl _ _ | apply Kp.drewN | apply Kp.drew | apply Kp.alloc | refine Kp.setCell ?_ (by first | exact .inl rfl | omega) _))⟩
def setW (s : VS) (b : Nat) (is : Bool) : VS := s.set 1 (if is then s.r 1 ||| 2 ^ b else minus (s.r 1) (2 ^ b))
theorem U.pow {b : Nat} (h : b ≤ 63) : U (2 ^ b) := ⟨Nat.lt_of_le_of_lt (Nat.pow_le_pow_right (by decide) h) (by decide)⟩
theorem setW_ok {s : VS} (h : s.ok) {b : Nat} (hb : b ≤ 63) (is : Bool) : (setW s b is).ok := by
  unfold setW; apply VS.set_ok h; cases is
  · exact (h 1).minus
  · exact (h 1).or (U.pow hb)
set_option maxHeartbeats 8000000 in
set_option maxRecDepth 100000 in
theorem previous_c (g : Nat) (s : VS) (w : World) (hI : St FT w g s) (hs : s.ok) :
    Calls Try.prog 49 #[.pointer (some ⟨g, 0, none⟩)] w fun e w' => e = .returned (.int .i64 ((getW (s.r 1) 11 2 : Nat) : Int)) ∧ ∃ m, w' = w.drewN m := by
  have c1 := hI.c 1
  have hl : getW (s.r 1) 11 2 < 4 := by
    unfold getW; rw [if_pos (by decide)]; exact Nat.mod_lt _ (by decide)
  have e1 : wrap64 ((getW (s.r 1) 11 2 : Nat) : Int) = ((getW (s.r 1) 11 2 : Nat) : Int) := by unfold wrap64; omega
  go_enter Try.func49, Try.ntmps49
  go_wp2_with (go_at_call 32; refine (get_c _ _ _ _ (hs 1)).mono ?_; rintro e w' ⟨rfl, m, rfl⟩)
  go_ret
  exact ⟨rfl, (by first | exact ⟨_, rfl⟩ | exact ⟨0, rfl⟩)⟩
def keepW (s : VS) (m : Nat) : VS := s.set 1 (putW (s.r 1) 11 2 m)
theorem zeroF (W : World) : (zeroValue FT).run Try.prog W = .ok (.agg (VS.mk 0 fun _ => 0).cells) W := by kernel_rfl
theorem infoF : (Try.prog.info? FT).map (·.size) = some 23 := by kernel_rfl
def vs0 : VS := ⟨3, fun _ => 0⟩
theorem vs0_ok : vs0.ok := fun _ => ⟨by show 0 < _; decide⟩
set_option maxHeartbeats 8000000 in
set_option maxRecDepth 100000 in
theorem begin_c (w : World) :
    Calls Try.prog 41 #[] w fun e w' => e = .returned (.agg vs0.cells) ∧ Kp w w' (fun _ => False) := by
  go_enter Try.func41, Try.ntmps41
  go_wp2_with (first
    | ((with_reducible refine gate_dst (N := 0) rfl ?_); refine al_ev rfl rfl (N := 0) rfl _ (zeroF _) ?_; intro g hg w1 hb1 hk1; have Hg := Aside0.mk hg; clear hg)
    | ((with_reducible refine gate_store (t := 54) (p := 0) rfl ?_); refine st_ev rfl rfl rfl g vs0.cells _ _ rfl rfl hb1 infoF rfl (VS.one _) ?_; intro w2 hb2 hk2))
  refine bodyPost_ret (results_cell_row rfl _ _ g FT vs0.cells (0, 0) _ rfl hb2 Try.underlying54 rfl infoF) rfl ?_
  exact ⟨rfl, hk1.then hk2 fun k hk (e : k = g) => by have := Hg.out; omega⟩
def knownW (n : Int) : Bool := decide (placeW n ≠ 0) || decide (n = 768 ∨ n = 256 ∨ n = 769 ∨ n = 836 ∨ n = 324 ∨ n = 260 ∨ n = 3857 ∨ n = 3858 ∨ n = 3859 ∨ n = 3860)
end Go.Proofs.Ytlhdildnekllhaa.H
/- The hart's registers (package csr), walked by hand: who may, names; the page's example. -/
namespace Go.Proofs.Ytlhdildnekllhaa.H
open Go.RowKit Go.Proofs.YtlhdildnekllhaaW.PrintWords Go.Proofs.YtlhdildnekllhaaW.PrintLast Go.Proofs.Ytlhdildnekllhaa.PAl Go.Proofs.Ytlhdildnekllhaa.Pure Go.Proofs.Ytlhdildnekllhaa.Vw
set_option linter.unusedVariables false
set_option linter.unusedSimpArgs false
theorem statusW_m (s : VS) (x k : Nat) : (statusW s x k).m = s.m := by unfold statusW; split <;> rfl
theorem writeW_m (s : VS) (n : Int) (x : Nat) : (writeW s n x).m = s.m := by
  unfold writeW; repeat' split
  all_goals first | exact statusW_m _ _ _ | rfl
theorem write_l (g : Nat) (s : VS) (n : Int) (k : Nat) (w : World) (hI : St FT w g s) (hs : s.ok) (hk : k < 18446744073709551616) :
    Calls Try.prog 42 #[.pointer (some ⟨g, 0, none⟩), .int .i64 n, .int .u64 (@OfNat.ofNat Int k instOfNat)] w fun e w' => e = .returned (.tuple #[]) ∧ St FT w' g (writeW s n k) ∧ KpG w w' g :=
  write_c g s n k w hI hs ⟨hk⟩
def awakeS : VS := writeW (writeW (writeW vs0 773 8) 773 6) 833 7
theorem awakeS_ok : awakeS.ok := writeW_ok (writeW_ok (writeW_ok vs0_ok 773 U.num) 773 U.num) 833 U.num
theorem awake1 : readW awakeS 773 = 8 := by decide +kernel
theorem awake2 : readW awakeS 833 = 4 := by decide +kernel
theorem awake3 : knownW 769 = true := by decide +kernel
theorem awakeM : awakeS.m = 3 := by unfold awakeS; rw [writeW_m, writeW_m, writeW_m]; rfl
end Go.Proofs.Ytlhdildnekllhaa.H
/- The document's answer for the registers (vireoref08), walked by hand: what each function answers. -/
namespace Go.Proofs.Ytlhdildnekllhaa.H
open Go.RowKit Go.Proofs.YtlhdildnekllhaaW.PrintWords Go.Proofs.YtlhdildnekllhaaW.PrintLast Go.Proofs.Ytlhdildnekllhaa.PAl Go.Proofs.Ytlhdildnekllhaa.Pure Go.Proofs.Ytlhdildnekllhaa.Vw
set_option linter.unusedVariables false
set_option linter.unusedSimpArgs false
abbrev RT : TypeId := 57
theorem getr_c (x : Nat) (a n : Int) (w : World) (hx : U x) : Calls Try.prog 22 #[.int .u64 (x : Int), .int .i64 a, .int .i64 n] w fun e w' => e = .returned (.int .u64 ((getW x a n : Nat) : Int)) ∧ KpN w w' :=
  (vireoref01_Get.calls 140 _ _ _ _ w (vireoref01_Get_is x hx.lt a n 140 (by decide))).mono fun e w' h => ⟨h.1, Kp.of_below h.2 _⟩
theorem bitw_c (x y : Nat) (how : Int) (w : World) (hx : U x) (hy : U y) : Calls Try.prog 86 #[.int .u64 (x : Int), .int .u64 (y : Int), .int .i64 how] w fun e w' => e = .returned (.int .u64 ((bwW x y how : Nat) : Int)) ∧ KpN w w' :=
  (vireoref05_bitwise.calls 140 _ _ _ _ w (vireoref05_bitwise_is x y hx.lt hy.lt how 140 (by decide))).mono fun e w' h => ⟨h.1, Kp.of_below h.2 _⟩
set_option maxHeartbeats 8000000 in
set_option maxRecDepth 100000 in
theorem do_and (x y : Nat) (w : World) (hx : U x) (hy : U y) :
    Calls Try.prog 72 #[.int .i64 40, .int .u64 (x : Int), .int .u64 (y : Int)] w fun e w' => e = .returned (.tuple #[.int .u64 ((x &&& y : Nat) : Int), .bool true]) ∧ KpN w w' := by
  have e0 : bwW x y 0 = x &&& y := rfl
  go_enter Try.func72, Try.ntmps72
  go_wp2_with (go_at_call 86; refine (bitw_c _ _ _ _ hx hy).mono ?_; rintro e w' ⟨rfl, hk⟩)
  go_ret2
  exact ⟨rfl, hk⟩
set_option maxHeartbeats 8000000 in
set_option maxRecDepth 100000 in
theorem do_or (x y : Nat) (w : World) (hx : U x) (hy : U y) :
    Calls Try.prog 72 #[.int .i64 39, .int .u64 (x : Int), .int .u64 (y : Int)] w fun e w' => e = .returned (.tuple #[.int .u64 ((x ||| y : Nat) : Int), .bool true]) ∧ KpN w w' := by
  have e0 : bwW x y 1 = x ||| y := rfl
  go_enter Try.func72, Try.ntmps72
  go_wp2_with (go_at_call 86; refine (bitw_c _ _ _ _ hx hy).mono ?_; rintro e w' ⟨rfl, hk⟩)
  go_ret2
  exact ⟨rfl, hk⟩
set_option maxHeartbeats 8000000 in
set_option maxRecDepth 100000 in
theorem and_r (x y : Nat) (w : World) (hx : U x) (hy : U y) :
    Calls Try.prog 45 #[.int .u64 (x : Int), .int .u64 (y : Int)] w fun e w' => e = .returned (.int .u64 ((x &&& y : Nat) : Int)) ∧ KpN w w' := by
  go_enter Try.func45, Try.ntmps45
  go_wp2_with (go_at_call 72; refine (do_and _ _ _ hx hy).mono ?_; rintro e w' ⟨rfl, hk⟩)
  go_ret
  exact ⟨rfl, hk⟩
theorem and_rl (x n : Nat) (w : World) (hx : U x) (hn : n < 18446744073709551616) :
    Calls Try.prog 45 #[.int .u64 (x : Int), .int .u64 (@OfNat.ofNat Int n instOfNat)] w fun e w' => e = .returned (.int .u64 ((x &&& n : Nat) : Int)) ∧ KpN w w' := and_r x n w hx ⟨hn⟩
set_option maxHeartbeats 8000000 in
set_option maxRecDepth 100000 in
theorem or_r (x y : Nat) (w : World) (hx : U x) (hy : U y) :
    Calls Try.prog 80 #[.int .u64 (x : Int), .int .u64 (y : Int)] w fun e w' => e = .returned (.int .u64 ((x ||| y : Nat) : Int)) ∧ KpN w w' := by
  go_enter Try.func80, Try.ntmps80
  go_wp2_with (go_at_call 72; refine (do_or _ _ _ hx hy).mono ?_; rintro e w' ⟨rfl, hk⟩)
  go_ret
  exact ⟨rfl, hk⟩
def mixW (old x mask : Nat) : Nat := minus old mask ||| (x &&& mask)
theorem mixW_ok {old x mask : Nat} (h : U old) (k : U x) : U (mixW old x mask) := h.minus.or k.and
set_option maxHeartbeats 8000000 in
set_option maxRecDepth 100000 in
theorem mix_r (old x mask : Nat) (w : World) (ho : U old) (hx : U x) (hm : U mask) :
    Calls Try.prog 70 #[.int .u64 (old : Int), .int .u64 (x : Int), .int .u64 (mask : Int)] w fun e w' => e = .returned (.int .u64 ((mixW old x mask : Nat) : Int)) ∧ KpN w w' := by
  have hn : U (18446744073709551615 - mask) := ⟨by omega⟩
  have en : Go.bits .xor .u64 IntKind.u64.max (mask : Int) = ((18446744073709551615 - mask : Nat) : Int) := not_nat mask hm.lt
  obtain ⟨k, hk⟩ : ∃ k, 18446744073709551615 - mask = k := ⟨_, rfl⟩
  rw [hk] at hn en
  have hmix : mixW old x mask = (old &&& k) ||| (x &&& mask) := by unfold mixW minus; rw [hk]
  have Hk := Aside0.mk hmix
  clear hk hmix
  go_enter Try.func70, Try.ntmps70
  go_wp2_with (fail)
  refine (and_r old k _ ho hn).mono ?_
  rintro e w1 ⟨rfl, hk1⟩
  go_wp2_with (fail)
  refine (and_r x mask _ hx hm).mono ?_
  rintro e w2 ⟨rfl, hk2⟩
  go_wp2_with (fail)
  refine (or_r _ _ _ ho.and hx.and).mono ?_
  rintro e w3 ⟨rfl, hk3⟩
  go_wp2
  go_ret
  rw [Hk.out]
  exact ⟨rfl, (hk1.trans hk2).trans hk3⟩
theorem mix_rl (old x n : Nat) (w : World) (ho : U old) (hx : U x) (hn : n < 18446744073709551616) :
    Calls Try.prog 70 #[.int .u64 (old : Int), .int .u64 (x : Int), .int .u64 (@OfNat.ofNat Int n instOfNat)] w fun e w' => e = .returned (.int .u64 ((mixW old x n : Nat) : Int)) ∧ KpN w w' := mix_r old x n w ho hx ⟨hn⟩
end Go.Proofs.Ytlhdildnekllhaa.H
/- The document's answer for the registers (vireoref08), walked by hand: its writes. -/
namespace Go.Proofs.Ytlhdildnekllhaa.H
open Go.RowKit Go.Proofs.YtlhdildnekllhaaW.PrintWords Go.Proofs.YtlhdildnekllhaaW.PrintLast Go.Proofs.Ytlhdildnekllhaa.PAl Go.Proofs.Ytlhdildnekllhaa.Pure Go.Proofs.Ytlhdildnekllhaa.Vw
set_option linter.unusedVariables false
set_option linter.unusedSimpArgs false
set_option maxHeartbeats 8000000 in
set_option maxRecDepth 100000 in
theorem rbit_c (s : VS) (at_ : Nat) (n : Int) (w : World) (hs : s.ok) (h : at_ ≤ 21) :
    Calls Try.prog 46 #[.agg s.cells, .int .i64 (at_ : Int), .int .i64 n] w fun e w' => e = .returned (.bool (bitW (s.r (1 + at_)) n)) ∧ KpN w w' := by
  have i0 : (0 : Int) ≤ (at_ : Int) := by omega
  have i1 : (at_ : Int) < 22 := by omega
  go_enter Try.func46, Try.ntmps46
  go_wp2_with (first
    | ((with_reducible refine gate_dst (N := 3) rfl ?_); refine bx_ev rfl rfl (N := 3) rfl s.cells rfl ?_; intro g hg w1 hb1 hk1; have Hg := Aside0.mk hg; clear hg; have c1 := (St.mk hb1).c (1 + at_) (by omega) (by omega))
    | (go_at_call 22; refine (getr_c _ _ _ _ (hs _)).mono ?_; rintro e w2 ⟨rfl, hk2⟩))
  go_ret
  exact ⟨congrArg (fun z => Ending.returned (.bool z)) (bit_eq _ _), hk1.trans hk2⟩
theorem rbit_l (s : VS) (k : Nat) (n : Int) (w : World) (hs : s.ok) (h : k ≤ 21) :
    Calls Try.prog 46 #[.agg s.cells, .int .i64 (@OfNat.ofNat Int k instOfNat), .int .i64 n] w fun e w' => e = .returned (.bool (bitW (s.r (1 + k)) n)) ∧ KpN w w' := rbit_c s k n w hs h
/-! the rows -/
def findR (l : List S119) (n : Int) : Int × ByteArray × Int × Int × Bool :=
  match l.find? (fun x => decide (x.f0 = n)) with
  | some x => (x.f0, x.f1, x.f2, x.f3, true)
  | none => (0, ⟨#[]⟩, 0, 0, false)
def rowsL : List S119 := vireoref08_Rows.f.getD []
def ofR (n : Int) : Int × ByteArray × Int × Int × Bool := findR rowsL n
theorem of_l (l : List S119) (n : Int) (hl : l.length ≤ 40) : ∀ (d k i : Nat), i + d = l.length → d < k → vireoref08_Of.l0 k n l (i : Int) 0 ⟨#[]⟩ 0 0 = some (findR (l.drop i) n)
  | 0, k, i, hi, hk => by
    obtain ⟨k, rfl⟩ : ∃ m, k = m + 1 := ⟨k - 1, by omega⟩
    rw [vireoref08_Of.l0, if_neg (by omega), List.drop_eq_nil_of_le (by omega)]
    rfl
  | d + 1, k, i, hi, hk => by
    obtain ⟨k, rfl⟩ : ∃ m, k = m + 1 := ⟨k - 1, by omega⟩
    have hil : i < l.length := by omega
    have e2 : wrap64 ((i : Int) + 1) = ((i + 1 : Nat) : Int) := by rw [w64_id _ (by omega) (by omega)]; omega
    have er : rd_T119 l (i : Int) = l[i] := by
      unfold rd_T119; rw [Int.toNat_natCast, List.getD_eq_getElem?_getD, List.getElem?_eq_getElem hil]; rfl
    have ih := of_l l n hl d k (i + 1) (by omega) (by omega)
    rw [vireoref08_Of.l0, if_pos (by omega), if_pos (by omega), er, e2, ih, List.drop_eq_getElem_cons hil]
    unfold findR
    by_cases h : l[i].f0 = n
    · rw [if_pos h, List.find?_cons_of_pos (by simpa using h)]
    · rw [if_neg h, List.find?_cons_of_neg (by simpa using h)]
theorem of_c (n : Int) (w : World) :
    Calls Try.prog 71 #[.int .i64 n] w fun e w' => e = .returned (.tuple #[.agg #[.int .i64 (ofR n).1, .string (ofR n).2.1, .int .i64 (ofR n).2.2.1, .int .u64 (ofR n).2.2.2.1], .bool (ofR n).2.2.2.2]) ∧ KpN w w' := by
  have h : vireoref08_Of.f 40 n = some (ofR n) := by
    have := of_l rowsL n (by decide) 31 40 0 (by decide) (by decide)
    unfold vireoref08_Of.f
    exact this
  exact (vireoref08_Of.calls 40 n _ _ _ _ _ w h).mono fun e w' h => ⟨h.1, Kp.of_below h.2 _⟩
end Go.Proofs.Ytlhdildnekllhaa.H
/- The document's answer for the registers (vireoref08), walked by hand: its writes. -/
namespace Go.Proofs.Ytlhdildnekllhaa.H
open Go.RowKit Go.Proofs.YtlhdildnekllhaaW.PrintWords Go.Proofs.YtlhdildnekllhaaW.PrintLast Go.Proofs.Ytlhdildnekllhaa.PAl Go.Proofs.Ytlhdildnekllhaa.Pure Go.Proofs.Ytlhdildnekllhaa.Vw
set_option linter.unusedVariables false
set_option linter.unusedSimpArgs false
theorem zeroR (W : World) : (zeroValue RT).run Try.prog W = .ok (.agg (VS.mk 0 fun _ => 0).cells) W := by kernel_rfl
theorem infoR : (Try.prog.info? RT).map (·.size) = some 23 := by kernel_rfl
theorem out2 {a b c : World} {g : Nat} (h : KpN a b) (hg : a.heap.size ≤ g) (k : Kp b c (fun i => i = g)) : KpN a c := h.then k fun i hi (e : i = g) => by omega
def rwriteW (s : VS) (n : Int) (x : Nat) : VS :=
  if n = 768 then s.set 1 (mixW (s.r 1) x (if getW x 11 2 = 2 then 8257962 else 8264106)) else if n = 256 then s.set 1 (mixW (s.r 1) x 786722)
  else if n = 836 then s.set 2 (x &&& 546) else if n = 324 then s.set 2 (mixW (s.r 2) x (s.r 5 &&& 2)) else if n = 260 then s.set 6 (mixW (s.r 6) x (s.r 5))
  else if (ofR n).2.2.2.2 = false ∨ (ofR n).2.2.1 < 0 ∨ (ofR n).2.2.2.1 = 0 then s
  else if ((ofR n).2.2.1 = 6 ∨ (ofR n).2.2.1 = 12) ∧ getW x 1 1 = 1 then s
  else if (ofR n).2.2.1 = 18 ∧ getW x 60 4 ≠ 0 ∧ getW x 60 4 ≠ 8 then s
  else s.set ((ofR n).2.2.1.toNat + 1) (x &&& (ofR n).2.2.2.1.toNat)
set_option maxHeartbeats 8000000 in
set_option maxRecDepth 100000 in
theorem rwrite_c3 (s : VS) (x : Nat) (w : World) (hs : s.ok) (hx : U x) :
    Calls Try.prog 43 #[.agg s.cells, .int .i64 836, .int .u64 (x : Int)] w fun e w' => e = .returned (.agg (s.set 2 (x &&& 546)).cells) ∧ KpN w w' := by
  go_enter Try.func43, Try.ntmps43
  go_wp2_with (first | ((with_reducible refine gate_dst (N := 3) rfl ?_); refine bx_ev rfl rfl (N := 3) rfl (s.cells) rfl ?_; intro g hg_g w1 hb_g hk_g; have Hg_g := Aside0.mk hg_g; clear hg_g) | (((with_reducible refine gate_dst (N := 6) rfl ?_); refine al_ev rfl rfl (N := 6) rfl _ (zeroR _) ?_; intro h hg_h w2 hb_h hk_h; have Hg_h := Aside0.mk hg_h; clear hg_h); have hI2 : St RT w2 g s := (St.mk hb_g).kp hk_h (fun h => h); have c1 := hI2.c 1; have c2 := hI2.c 2; have c5 := hI2.c 5; have c6 := hI2.c 6))
  have hgh : h ≠ g := by have := Hg_h.out; have := blk_lt hb_g; omega
  have hgw : w.heap.size ≤ g := by have := Hg_g.out; omega
  have hhw : w.heap.size ≤ h := by have := Hg_h.out; have := hk_g.size; omega
  have hR2 : St RT w2 h (VS.mk 0 fun _ => 0) := St.mk hb_h
  have K2 := hk_g.trans hk_h
  clear hb_g hb_h hk_g hk_h Hg_g Hg_h
  refine (and_rl x 546 _ hx (by decide)).mono ?_
  rintro e w3 ⟨rfl, hk3⟩
  have hI3 : St RT w3 g s := hI2.kp hk3 (fun h => h)
  have hR3 : St RT w3 h (VS.mk 0 fun _ => 0) := hR2.kp hk3 (fun h => h)
  have K3 := K2.trans hk3
  clear hI2 hR2 K2 hk3
  have cJ := hI3.c 2
  have fJ := hI3.f 2
  go_wp2_with (first | ((with_reducible refine gate_dst (N := 44) rfl ?_); refine wpList_load_row rfl 57 _ rfl g rfl _ ((s.set 2 (x &&& 546)).cells) (0, 0) _ ((hI3.set 2 _).blk) Try.underlying57 rfl infoR ?_) | ((with_reducible refine gate_store (t := 57) (p := 6) rfl ?_); refine st_ev rfl rfl rfl h ((s.set 2 (x &&& 546)).cells) _ _ rfl rfl ((hR3.far hgh _).blk) infoR rfl (VS.one _) ?_; intro wz hs_wz ks_wz))
  refine bodyPost_ret (results_cell_row rfl _ _ h 57 ((s.set 2 (x &&& 546)).cells) (0, 0) _ rfl (hs_wz) Try.underlying57 rfl infoR) rfl ?_
  exact ⟨rfl, (K3.setCell (p := ⟨g, 2, none⟩) (.inr hgw) _).then ks_wz fun i hi (e : i = h) => by omega⟩
set_option maxHeartbeats 8000000 in
set_option maxRecDepth 100000 in
theorem rwrite_c2 (s : VS) (x : Nat) (w : World) (hs : s.ok) (hx : U x) :
    Calls Try.prog 43 #[.agg s.cells, .int .i64 256, .int .u64 (x : Int)] w fun e w' => e = .returned (.agg (s.set 1 (mixW (s.r 1) x 786722)).cells) ∧ KpN w w' := by
  go_enter Try.func43, Try.ntmps43
  go_wp2_with (first | ((with_reducible refine gate_dst (N := 3) rfl ?_); refine bx_ev rfl rfl (N := 3) rfl (s.cells) rfl ?_; intro g hg_g w1 hb_g hk_g; have Hg_g := Aside0.mk hg_g; clear hg_g) | (((with_reducible refine gate_dst (N := 6) rfl ?_); refine al_ev rfl rfl (N := 6) rfl _ (zeroR _) ?_; intro h hg_h w2 hb_h hk_h; have Hg_h := Aside0.mk hg_h; clear hg_h); have hI2 : St RT w2 g s := (St.mk hb_g).kp hk_h (fun h => h); have c1 := hI2.c 1; have c2 := hI2.c 2; have c5 := hI2.c 5; have c6 := hI2.c 6))
  have hgh : h ≠ g := by have := Hg_h.out; have := blk_lt hb_g; omega
  have hgw : w.heap.size ≤ g := by have := Hg_g.out; omega
  have hhw : w.heap.size ≤ h := by have := Hg_h.out; have := hk_g.size; omega
  have hR2 : St RT w2 h (VS.mk 0 fun _ => 0) := St.mk hb_h
  have K2 := hk_g.trans hk_h
  clear hb_g hb_h hk_g hk_h Hg_g Hg_h
  refine (mix_rl (s.r 1) x 786722 _ (hs 1) hx (by decide)).mono ?_
  rintro e w3 ⟨rfl, hk3⟩
  have hI3 : St RT w3 g s := hI2.kp hk3 (fun h => h)
  have hR3 : St RT w3 h (VS.mk 0 fun _ => 0) := hR2.kp hk3 (fun h => h)
  have K3 := K2.trans hk3
  clear hI2 hR2 K2 hk3
  have cJ := hI3.c 1
  have fJ := hI3.f 1
  go_wp2_with (first | ((with_reducible refine gate_dst (N := 37) rfl ?_); refine wpList_load_row rfl 57 _ rfl g rfl _ ((s.set 1 (mixW (s.r 1) x 786722)).cells) (0, 0) _ ((hI3.set 1 _).blk) Try.underlying57 rfl infoR ?_) | ((with_reducible refine gate_store (t := 57) (p := 6) rfl ?_); refine st_ev rfl rfl rfl h ((s.set 1 (mixW (s.r 1) x 786722)).cells) _ _ rfl rfl ((hR3.far hgh _).blk) infoR rfl (VS.one _) ?_; intro wz hs_wz ks_wz))
  refine bodyPost_ret (results_cell_row rfl _ _ h 57 ((s.set 1 (mixW (s.r 1) x 786722)).cells) (0, 0) _ rfl (hs_wz) Try.underlying57 rfl infoR) rfl ?_
  exact ⟨rfl, (K3.setCell (p := ⟨g, 1, none⟩) (.inr hgw) _).then ks_wz fun i hi (e : i = h) => by omega⟩
set_option maxHeartbeats 8000000 in
set_option maxRecDepth 100000 in
theorem rwrite_c5 (s : VS) (x : Nat) (w : World) (hs : s.ok) (hx : U x) :
    Calls Try.prog 43 #[.agg s.cells, .int .i64 260, .int .u64 (x : Int)] w fun e w' => e = .returned (.agg (s.set 6 (mixW (s.r 6) x (s.r 5))).cells) ∧ KpN w w' := by
  go_enter Try.func43, Try.ntmps43
  go_wp2_with (first | ((with_reducible refine gate_dst (N := 3) rfl ?_); refine bx_ev rfl rfl (N := 3) rfl (s.cells) rfl ?_; intro g hg_g w1 hb_g hk_g; have Hg_g := Aside0.mk hg_g; clear hg_g) | (((with_reducible refine gate_dst (N := 6) rfl ?_); refine al_ev rfl rfl (N := 6) rfl _ (zeroR _) ?_; intro h hg_h w2 hb_h hk_h; have Hg_h := Aside0.mk hg_h; clear hg_h); have hI2 : St RT w2 g s := (St.mk hb_g).kp hk_h (fun h => h); have c1 := hI2.c 1; have c2 := hI2.c 2; have c5 := hI2.c 5; have c6 := hI2.c 6))
  have hgh : h ≠ g := by have := Hg_h.out; have := blk_lt hb_g; omega
  have hgw : w.heap.size ≤ g := by have := Hg_g.out; omega
  have hhw : w.heap.size ≤ h := by have := Hg_h.out; have := hk_g.size; omega
  have hR2 : St RT w2 h (VS.mk 0 fun _ => 0) := St.mk hb_h
  have K2 := hk_g.trans hk_h
  clear hb_g hb_h hk_g hk_h Hg_g Hg_h
  refine (mix_r (s.r 6) x (s.r 5) _ (hs 6) hx (hs 5)).mono ?_
  rintro e w3 ⟨rfl, hk3⟩
  have hI3 : St RT w3 g s := hI2.kp hk3 (fun h => h)
  have hR3 : St RT w3 h (VS.mk 0 fun _ => 0) := hR2.kp hk3 (fun h => h)
  have K3 := K2.trans hk3
  clear hI2 hR2 K2 hk3
  have cJ := hI3.c 6
  have fJ := hI3.f 6
  go_wp2_with (first | ((with_reducible refine gate_dst (N := 71) rfl ?_); refine wpList_load_row rfl 57 _ rfl g rfl _ ((s.set 6 (mixW (s.r 6) x (s.r 5))).cells) (0, 0) _ ((hI3.set 6 _).blk) Try.underlying57 rfl infoR ?_) | ((with_reducible refine gate_store (t := 57) (p := 6) rfl ?_); refine st_ev rfl rfl rfl h ((s.set 6 (mixW (s.r 6) x (s.r 5))).cells) _ _ rfl rfl ((hR3.far hgh _).blk) infoR rfl (VS.one _) ?_; intro wz hs_wz ks_wz))
  refine bodyPost_ret (results_cell_row rfl _ _ h 57 ((s.set 6 (mixW (s.r 6) x (s.r 5))).cells) (0, 0) _ rfl (hs_wz) Try.underlying57 rfl infoR) rfl ?_
  exact ⟨rfl, (K3.setCell (p := ⟨g, 6, none⟩) (.inr hgw) _).then ks_wz fun i hi (e : i = h) => by omega⟩
set_option maxHeartbeats 8000000 in
set_option maxRecDepth 100000 in
theorem rwrite_c1a (s : VS) (x : Nat) (w : World) (hs : s.ok) (hx : U x) (hg : getW x 11 2 = 2) :
    Calls Try.prog 43 #[.agg s.cells, .int .i64 768, .int .u64 (x : Int)] w fun e w' => e = .returned (.agg (s.set 1 (mixW (s.r 1) x 8257962)).cells) ∧ KpN w w' := by
  go_enter Try.func43, Try.ntmps43
  go_wp2_with (first | ((with_reducible refine gate_dst (N := 3) rfl ?_); refine bx_ev rfl rfl (N := 3) rfl (s.cells) rfl ?_; intro g hg_g w1 hb_g hk_g; have Hg_g := Aside0.mk hg_g; clear hg_g) | (((with_reducible refine gate_dst (N := 6) rfl ?_); refine al_ev rfl rfl (N := 6) rfl _ (zeroR _) ?_; intro h hg_h w2 hb_h hk_h; have Hg_h := Aside0.mk hg_h; clear hg_h); have hI2 : St RT w2 g s := (St.mk hb_g).kp hk_h (fun h => h); have c1 := hI2.c 1; have c2 := hI2.c 2; have c5 := hI2.c 5; have c6 := hI2.c 6))
  have hgh : h ≠ g := by have := Hg_h.out; have := blk_lt hb_g; omega
  have hgw : w.heap.size ≤ g := by have := Hg_g.out; omega
  have hhw : w.heap.size ≤ h := by have := Hg_h.out; have := hk_g.size; omega
  have hR2 : St RT w2 h (VS.mk 0 fun _ => 0) := St.mk hb_h
  have K2 := hk_g.trans hk_h
  clear hb_g hb_h hk_g hk_h Hg_g Hg_h
  refine (getr_c x 11 2 _ hx).mono ?_
  rintro e w3 ⟨rfl, hk3⟩
  have hI3 : St RT w3 g s := hI2.kp hk3 (fun h => h)
  have hR3 : St RT w3 h (VS.mk 0 fun _ => 0) := hR2.kp hk3 (fun h => h)
  have K3 := K2.trans hk3
  clear hI2 hR2 K2 hk3
  have Hg := Aside0.mk hg
  have hb : (((getW x 11 2 : Nat) : Int) == 2) = true := by rw [hg]; rfl
  clear hg
  have c1 := hI3.c 1
  go_wp2_with (fail)
  refine (mix_rl (s.r 1) x 8257962 _ (hs 1) hx (by decide)).mono ?_
  rintro e w4 ⟨rfl, hk4⟩
  have hI4 : St RT w4 g s := hI3.kp hk4 (fun h => h)
  have hR4 : St RT w4 h (VS.mk 0 fun _ => 0) := hR3.kp hk4 (fun h => h)
  have K4 := K3.trans hk4
  clear hI3 hR3 K3 hk4
  have cJ := hI4.c 1
  have fJ := hI4.f 1
  go_wp2_with (first | ((with_reducible refine gate_dst (N := 27) rfl ?_); refine wpList_load_row rfl 57 _ rfl g rfl _ ((s.set 1 (mixW (s.r 1) x 8257962)).cells) (0, 0) _ ((hI4.set 1 _).blk) Try.underlying57 rfl infoR ?_) | ((with_reducible refine gate_store (t := 57) (p := 6) rfl ?_); refine st_ev rfl rfl rfl h ((s.set 1 (mixW (s.r 1) x 8257962)).cells) _ _ rfl rfl ((hR4.far hgh _).blk) infoR rfl (VS.one _) ?_; intro wz hs_wz ks_wz))
  refine bodyPost_ret (results_cell_row rfl _ _ h 57 ((s.set 1 (mixW (s.r 1) x 8257962)).cells) (0, 0) _ rfl (hs_wz) Try.underlying57 rfl infoR) rfl ?_
  exact ⟨rfl, (K4.setCell (p := ⟨g, 1, none⟩) (.inr hgw) _).then ks_wz fun i hi (e : i = h) => by omega⟩
set_option maxHeartbeats 8000000 in
set_option maxRecDepth 100000 in
theorem rwrite_c1b (s : VS) (x : Nat) (w : World) (hs : s.ok) (hx : U x) (hg : ¬ getW x 11 2 = 2) :
    Calls Try.prog 43 #[.agg s.cells, .int .i64 768, .int .u64 (x : Int)] w fun e w' => e = .returned (.agg (s.set 1 (mixW (s.r 1) x 8264106)).cells) ∧ KpN w w' := by
  go_enter Try.func43, Try.ntmps43
  go_wp2_with (first | ((with_reducible refine gate_dst (N := 3) rfl ?_); refine bx_ev rfl rfl (N := 3) rfl (s.cells) rfl ?_; intro g hg_g w1 hb_g hk_g; have Hg_g := Aside0.mk hg_g; clear hg_g) | (((with_reducible refine gate_dst (N := 6) rfl ?_); refine al_ev rfl rfl (N := 6) rfl _ (zeroR _) ?_; intro h hg_h w2 hb_h hk_h; have Hg_h := Aside0.mk hg_h; clear hg_h); have hI2 : St RT w2 g s := (St.mk hb_g).kp hk_h (fun h => h); have c1 := hI2.c 1; have c2 := hI2.c 2; have c5 := hI2.c 5; have c6 := hI2.c 6))
  have hgh : h ≠ g := by have := Hg_h.out; have := blk_lt hb_g; omega
  have hgw : w.heap.size ≤ g := by have := Hg_g.out; omega
  have hhw : w.heap.size ≤ h := by have := Hg_h.out; have := hk_g.size; omega
  have hR2 : St RT w2 h (VS.mk 0 fun _ => 0) := St.mk hb_h
  have K2 := hk_g.trans hk_h
  clear hb_g hb_h hk_g hk_h Hg_g Hg_h
  refine (getr_c x 11 2 _ hx).mono ?_
  rintro e w3 ⟨rfl, hk3⟩
  have hI3 : St RT w3 g s := hI2.kp hk3 (fun h => h)
  have hR3 : St RT w3 h (VS.mk 0 fun _ => 0) := hR2.kp hk3 (fun h => h)
  have K3 := K2.trans hk3
  clear hI2 hR2 K2 hk3
  have Hg := Aside0.mk hg
  have hb : (((getW x 11 2 : Nat) : Int) == 2) = false := by rw [beq_eq_false_iff_ne]; omega
  clear hg
  have c1 := hI3.c 1
  go_wp2_with (fail)
  refine (mix_rl (s.r 1) x 8264106 _ (hs 1) hx (by decide)).mono ?_
  rintro e w4 ⟨rfl, hk4⟩
  have hI4 : St RT w4 g s := hI3.kp hk4 (fun h => h)
  have hR4 : St RT w4 h (VS.mk 0 fun _ => 0) := hR3.kp hk4 (fun h => h)
  have K4 := K3.trans hk4
  clear hI3 hR3 K3 hk4
  have cJ := hI4.c 1
  have fJ := hI4.f 1
  go_wp2_with (first | ((with_reducible refine gate_dst (N := 27) rfl ?_); refine wpList_load_row rfl 57 _ rfl g rfl _ ((s.set 1 (mixW (s.r 1) x 8264106)).cells) (0, 0) _ ((hI4.set 1 _).blk) Try.underlying57 rfl infoR ?_) | ((with_reducible refine gate_store (t := 57) (p := 6) rfl ?_); refine st_ev rfl rfl rfl h ((s.set 1 (mixW (s.r 1) x 8264106)).cells) _ _ rfl rfl ((hR4.far hgh _).blk) infoR rfl (VS.one _) ?_; intro wz hs_wz ks_wz))
  refine bodyPost_ret (results_cell_row rfl _ _ h 57 ((s.set 1 (mixW (s.r 1) x 8264106)).cells) (0, 0) _ rfl (hs_wz) Try.underlying57 rfl infoR) rfl ?_
  exact ⟨rfl, (K4.setCell (p := ⟨g, 1, none⟩) (.inr hgw) _).then ks_wz fun i hi (e : i = h) => by omega⟩
end Go.Proofs.Ytlhdildnekllhaa.H
/- The document's answer for the registers (vireoref08), walked by hand: its writes, the rest. -/
namespace Go.Proofs.Ytlhdildnekllhaa.H
open Go.RowKit Go.Proofs.YtlhdildnekllhaaW.PrintWords Go.Proofs.YtlhdildnekllhaaW.PrintLast Go.Proofs.Ytlhdildnekllhaa.PAl Go.Proofs.Ytlhdildnekllhaa.Pure Go.Proofs.Ytlhdildnekllhaa.Vw
set_option linter.unusedVariables false
set_option linter.unusedSimpArgs false
set_option maxHeartbeats 8000000 in
set_option maxRecDepth 100000 in
theorem rwrite_c4 (s : VS) (x : Nat) (w : World) (hs : s.ok) (hx : U x) :
    Calls Try.prog 43 #[.agg s.cells, .int .i64 324, .int .u64 (x : Int)] w fun e w' => e = .returned (.agg (s.set 2 (mixW (s.r 2) x (s.r 5 &&& 2))).cells) ∧ KpN w w' := by
  go_enter Try.func43, Try.ntmps43
  go_wp2_with (first | ((with_reducible refine gate_dst (N := 3) rfl ?_); refine bx_ev rfl rfl (N := 3) rfl (s.cells) rfl ?_; intro g hg_g w1 hb_g hk_g; have Hg_g := Aside0.mk hg_g; clear hg_g) | (((with_reducible refine gate_dst (N := 6) rfl ?_); refine al_ev rfl rfl (N := 6) rfl _ (zeroR _) ?_; intro h hg_h w2 hb_h hk_h; have Hg_h := Aside0.mk hg_h; clear hg_h); have hI2 : St RT w2 g s := (St.mk hb_g).kp hk_h (fun h => h); have c2 := hI2.c 2; have c5 := hI2.c 5; have f2 := hI2.f 2))
  have hgh : h ≠ g := by have := Hg_h.out; have := blk_lt hb_g; omega
  have hgw : w.heap.size ≤ g := by have := Hg_g.out; omega
  have hhw : w.heap.size ≤ h := by have := Hg_h.out; have := hk_g.size; omega
  have hR2 : St RT w2 h (VS.mk 0 fun _ => 0) := St.mk hb_h
  have K2 := hk_g.trans hk_h
  clear hb_g hb_h hk_g hk_h Hg_g Hg_h
  go_region_with (first
    | (go_at_call 45; refine (and_rl (s.r 5) 2 _ (hs 5) (by decide)).mono ?_; rintro e w3 ⟨rfl, hk3⟩; have hI3 : St RT w3 g s := hI2.drew.kp hk3 (fun h => h); have c2b := hI3.c 2; have f2b := hI3.f 2)
    | (go_at_call 70; refine (mix_r (s.r 2) x (s.r 5 &&& 2) _ (hs 2) hx (hs 5).and).mono ?_; rintro e w4 ⟨rfl, hk4⟩; have hI4 : St RT w4 g s := hI3.kp hk4 (fun h => h); have c2c := hI4.c 2; have f2c := hI4.f 2))
  all_goals
    have hR4 : St RT w4 h (VS.mk 0 fun _ => 0) := (hR2.drew.kp hk3 (fun h => h)).kp hk4 (fun h => h)
    have K4 := (K2.drew.trans hk3).trans hk4
    clear hk3 hk4 hI2 hR2
    go_wp2_with (first | ((with_reducible refine gate_dst (N := 58) rfl ?_); refine wpList_load_row rfl 57 _ rfl g rfl _ ((s.set 2 (mixW (s.r 2) x (s.r 5 &&& 2))).cells) (0, 0) _ ((hI4.set 2 _).blk) Try.underlying57 rfl infoR ?_) | ((with_reducible refine gate_store (t := 57) (p := 6) rfl ?_); refine st_ev rfl rfl rfl h ((s.set 2 (mixW (s.r 2) x (s.r 5 &&& 2))).cells) _ _ rfl rfl ((hR4.far hgh _).blk) infoR rfl (VS.one _) ?_; intro wz hs_wz ks_wz))
    refine bodyPost_ret (results_cell_row rfl _ _ h 57 ((s.set 2 (mixW (s.r 2) x (s.r 5 &&& 2))).cells) (0, 0) _ rfl (hs_wz) Try.underlying57 rfl infoR) rfl ?_
    exact ⟨rfl, (K4.setCell (p := ⟨g, 2, none⟩) (.inr hgw) _).then ks_wz fun i hi (e : i = h) => by omega⟩
end Go.Proofs.Ytlhdildnekllhaa.H
/- The document's answer for the registers (vireoref08), walked by hand: its writes, by the rows. -/
namespace Go.Proofs.Ytlhdildnekllhaa.H
open Go.RowKit Go.Proofs.YtlhdildnekllhaaW.PrintWords Go.Proofs.YtlhdildnekllhaaW.PrintLast Go.Proofs.Ytlhdildnekllhaa.PAl Go.Proofs.Ytlhdildnekllhaa.Pure Go.Proofs.Ytlhdildnekllhaa.Vw
set_option linter.unusedVariables false
set_option linter.unusedSimpArgs false
abbrev rowC (n0 : Int) (nm : ByteArray) (a m : Int) : Array Value := #[.int .i64 n0, .string nm, .int .i64 a, .int .u64 m]
theorem zeroRow (W : World) : (zeroValue 119).run Try.prog W = .ok (.agg (rowC 0 ⟨#[]⟩ 0 0)) W := by kernel_rfl
theorem infoRow : (Try.prog.info? 119).map (·.size) = some 4 := by kernel_rfl
theorem rowC_one (n0 : Int) (nm : ByteArray) (a m : Int) : (rowC n0 nm a m).all (·.oneCell') = true := by simp [Value.oneCell']
structure NotFive (n : Int) : Prop where
  b1 : (n == 768) = false
  b2 : (n == 256) = false
  b3 : (n == 836) = false
  b4 : (n == 324) = false
  b5 : (n == 260) = false
set_option maxHeartbeats 8000000 in
set_option maxRecDepth 100000 in
theorem rwrite_A (s : VS) (n : Int) (x : Nat) (n0 : Int) (nm : ByteArray) (a m : Int) (w : World) (hs : s.ok) (hx : U x) (hn : NotFive n) (hof : ofR n = (n0, nm, (a : Int), m, false)) :
    Calls Try.prog 43 #[.agg s.cells, .int .i64 n, .int .u64 (x : Int)] w fun e w' => e = .returned (.agg (s).cells) ∧ KpN w w' := by
  have b1 := hn.b1
  have b2 := hn.b2
  have b3 := hn.b3
  have b4 := hn.b4
  have b5 := hn.b5
  have ofc : ∀ w, Calls Try.prog 71 #[.int .i64 n] w fun e w' => e = .returned (.tuple #[.agg (rowC n0 nm (a : Int) m), .bool false]) ∧ KpN w w' := fun w => by
    have := of_c n w; rw [hof] at this; exact this
  have Ofc := Aside0.mk ofc
  clear ofc hof hn
  go_enter Try.func43, Try.ntmps43
  go_wp2_with (first | ((with_reducible refine gate_dst (N := 3) rfl ?_); refine bx_ev rfl rfl (N := 3) rfl (s.cells) rfl ?_; intro g hg_g w1 hb_g hk_g; have Hg_g := Aside0.mk hg_g; clear hg_g) | ((with_reducible refine gate_dst (N := 6) rfl ?_); refine al_ev rfl rfl (N := 6) rfl _ (zeroR _) ?_; intro h hg_h w2 hb_h hk_h; have Hg_h := Aside0.mk hg_h; clear hg_h))
  have hgh : h ≠ g := by have := Hg_h.out; have := blk_lt hb_g; omega
  have hgw : w.heap.size ≤ g := by have := Hg_g.out; omega
  have hhw : w.heap.size ≤ h := by have := Hg_h.out; have := hk_g.size; omega
  have hI2 : St RT w2 g s := (St.mk hb_g).kp hk_h (fun h => h)
  have hR2 : St RT w2 h (VS.mk 0 fun _ => 0) := St.mk hb_h
  have K2 := hk_g.trans hk_h
  clear hb_g hb_h hk_g hk_h Hg_g Hg_h
  refine (Ofc.out _).mono ?_
  rintro e w3 ⟨rfl, hk3⟩
  go_wp2_with (first
    | (((with_reducible refine gate_dst (N := 8) rfl ?_); refine al_ev rfl rfl (N := 8) rfl _ (zeroRow _) ?_; intro r hg_r w4 hb_r hk_r; have Hg_r := Aside0.mk hg_r; clear hg_r); have hI4 : St RT w4 g s := (hI2.kp hk3 (fun h => h)).kp hk_r (fun h => h); have hR4 : St RT w4 h (VS.mk 0 fun _ => 0) := (hR2.kp hk3 (fun h => h)).kp hk_r (fun h => h); have hgr : g ≠ r := (by have := Hg_r.out; have := (hI2.kp hk3 (fun h => h)).lt; omega); have hhr : h ≠ r := (by have := Hg_r.out; have := (hR2.kp hk3 (fun h => h)).lt; omega); have hwr : w.heap.size ≤ r := (by have := Hg_r.out; have := (K2.trans hk3).size; omega); have K4 := (K2.trans hk3).trans hk_r)
    | ((with_reducible refine gate_store (t := 119) (p := 8) rfl ?_); refine st_ev rfl rfl rfl r (rowC n0 nm (a : Int) m) _ _ rfl rfl hb_r infoRow rfl (rowC_one _ _ _ _) ?_; intro w5 hs5 ks5; have hB5 : Bk w5 r (rowC n0 nm (a : Int) m) 119 := ⟨hs5⟩; have r2 : w5.cell? ⟨r, 2, none⟩ = some (.int .i64 (a : Int)) := hB5.c 2; have r3 : w5.cell? ⟨r, 3, none⟩ = some (.int .u64 m) := hB5.c 3; have hI5 := hI4.kp ks5 hgr; have hR5 := hR4.kp ks5 hhr; have K5 : KpN w w5 := K4.then ks5 (fun i hi (e : i = r) => by omega)) | ((with_reducible refine gate_dst (N := 89) rfl ?_); refine wpList_load_row rfl 57 _ rfl g rfl _ (s.cells) (0, 0) _ (hI5.blk) Try.underlying57 rfl infoR ?_) | ((with_reducible refine gate_store (t := 57) (p := 6) rfl ?_); refine st_ev rfl rfl rfl h (s.cells) _ _ rfl rfl (hR5.blk) infoR rfl (VS.one _) ?_; intro wz hs_wz ks_wz))
  refine bodyPost_ret (results_cell_row rfl _ _ h 57 (s.cells) (0, 0) _ rfl (hs_wz) Try.underlying57 rfl infoR) rfl ?_
  exact ⟨rfl, K5.then ks_wz fun i hi (e : i = h) => by omega⟩
set_option maxHeartbeats 8000000 in
set_option maxRecDepth 100000 in
theorem rwrite_B (s : VS) (n : Int) (x : Nat) (n0 : Int) (nm : ByteArray) (a m : Int) (ha : a < 0) (w : World) (hs : s.ok) (hx : U x) (hn : NotFive n) (hof : ofR n = (n0, nm, (a : Int), m, true)) :
    Calls Try.prog 43 #[.agg s.cells, .int .i64 n, .int .u64 (x : Int)] w fun e w' => e = .returned (.agg (s).cells) ∧ KpN w w' := by
  have b1 := hn.b1
  have b2 := hn.b2
  have b3 := hn.b3
  have b4 := hn.b4
  have b5 := hn.b5
  have ofc : ∀ w, Calls Try.prog 71 #[.int .i64 n] w fun e w' => e = .returned (.tuple #[.agg (rowC n0 nm (a : Int) m), .bool true]) ∧ KpN w w' := fun w => by
    have := of_c n w; rw [hof] at this; exact this
  have Ofc := Aside0.mk ofc
  clear ofc hof hn
  have hb : decide (a < 0) = true := decide_eq_true ha
  go_enter Try.func43, Try.ntmps43
  go_wp2_with (first | ((with_reducible refine gate_dst (N := 3) rfl ?_); refine bx_ev rfl rfl (N := 3) rfl (s.cells) rfl ?_; intro g hg_g w1 hb_g hk_g; have Hg_g := Aside0.mk hg_g; clear hg_g) | ((with_reducible refine gate_dst (N := 6) rfl ?_); refine al_ev rfl rfl (N := 6) rfl _ (zeroR _) ?_; intro h hg_h w2 hb_h hk_h; have Hg_h := Aside0.mk hg_h; clear hg_h))
  have hgh : h ≠ g := by have := Hg_h.out; have := blk_lt hb_g; omega
  have hgw : w.heap.size ≤ g := by have := Hg_g.out; omega
  have hhw : w.heap.size ≤ h := by have := Hg_h.out; have := hk_g.size; omega
  have hI2 : St RT w2 g s := (St.mk hb_g).kp hk_h (fun h => h)
  have hR2 : St RT w2 h (VS.mk 0 fun _ => 0) := St.mk hb_h
  have K2 := hk_g.trans hk_h
  clear hb_g hb_h hk_g hk_h Hg_g Hg_h
  refine (Ofc.out _).mono ?_
  rintro e w3 ⟨rfl, hk3⟩
  go_wp2_with (first
    | (((with_reducible refine gate_dst (N := 8) rfl ?_); refine al_ev rfl rfl (N := 8) rfl _ (zeroRow _) ?_; intro r hg_r w4 hb_r hk_r; have Hg_r := Aside0.mk hg_r; clear hg_r); have hI4 : St RT w4 g s := (hI2.kp hk3 (fun h => h)).kp hk_r (fun h => h); have hR4 : St RT w4 h (VS.mk 0 fun _ => 0) := (hR2.kp hk3 (fun h => h)).kp hk_r (fun h => h); have hgr : g ≠ r := (by have := Hg_r.out; have := (hI2.kp hk3 (fun h => h)).lt; omega); have hhr : h ≠ r := (by have := Hg_r.out; have := (hR2.kp hk3 (fun h => h)).lt; omega); have hwr : w.heap.size ≤ r := (by have := Hg_r.out; have := (K2.trans hk3).size; omega); have K4 := (K2.trans hk3).trans hk_r)
    | ((with_reducible refine gate_store (t := 119) (p := 8) rfl ?_); refine st_ev rfl rfl rfl r (rowC n0 nm (a : Int) m) _ _ rfl rfl hb_r infoRow rfl (rowC_one _ _ _ _) ?_; intro w5 hs5 ks5; have hB5 : Bk w5 r (rowC n0 nm (a : Int) m) 119 := ⟨hs5⟩; have r2 : w5.cell? ⟨r, 2, none⟩ = some (.int .i64 (a : Int)) := hB5.c 2; have r3 : w5.cell? ⟨r, 3, none⟩ = some (.int .u64 m) := hB5.c 3; have hI5 := hI4.kp ks5 hgr; have hR5 := hR4.kp ks5 hhr; have K5 : KpN w w5 := K4.then ks5 (fun i hi (e : i = r) => by omega)) | ((with_reducible refine gate_dst (N := 89) rfl ?_); refine wpList_load_row rfl 57 _ rfl g rfl _ (s.cells) (0, 0) _ (hI5.blk) Try.underlying57 rfl infoR ?_) | ((with_reducible refine gate_store (t := 57) (p := 6) rfl ?_); refine st_ev rfl rfl rfl h (s.cells) _ _ rfl rfl (hR5.blk) infoR rfl (VS.one _) ?_; intro wz hs_wz ks_wz))
  refine bodyPost_ret (results_cell_row rfl _ _ h 57 (s.cells) (0, 0) _ rfl (hs_wz) Try.underlying57 rfl infoR) rfl ?_
  exact ⟨rfl, K5.then ks_wz fun i hi (e : i = h) => by omega⟩
set_option maxHeartbeats 8000000 in
set_option maxRecDepth 100000 in
theorem rwrite_C (s : VS) (n : Int) (x : Nat) (n0 : Int) (nm : ByteArray) (a : Int) (ha : ¬ a < 0) (w : World) (hs : s.ok) (hx : U x) (hn : NotFive n) (hof : ofR n = (n0, nm, (a : Int), 0, true)) :
    Calls Try.prog 43 #[.agg s.cells, .int .i64 n, .int .u64 (x : Int)] w fun e w' => e = .returned (.agg (s).cells) ∧ KpN w w' := by
  have b1 := hn.b1
  have b2 := hn.b2
  have b3 := hn.b3
  have b4 := hn.b4
  have b5 := hn.b5
  have ofc : ∀ w, Calls Try.prog 71 #[.int .i64 n] w fun e w' => e = .returned (.tuple #[.agg (rowC n0 nm (a : Int) 0), .bool true]) ∧ KpN w w' := fun w => by
    have := of_c n w; rw [hof] at this; exact this
  have Ofc := Aside0.mk ofc
  clear ofc hof hn
  have hb : decide (a < 0) = false := decide_eq_false ha
  go_enter Try.func43, Try.ntmps43
  go_wp2_with (first | ((with_reducible refine gate_dst (N := 3) rfl ?_); refine bx_ev rfl rfl (N := 3) rfl (s.cells) rfl ?_; intro g hg_g w1 hb_g hk_g; have Hg_g := Aside0.mk hg_g; clear hg_g) | ((with_reducible refine gate_dst (N := 6) rfl ?_); refine al_ev rfl rfl (N := 6) rfl _ (zeroR _) ?_; intro h hg_h w2 hb_h hk_h; have Hg_h := Aside0.mk hg_h; clear hg_h))
  have hgh : h ≠ g := by have := Hg_h.out; have := blk_lt hb_g; omega
  have hgw : w.heap.size ≤ g := by have := Hg_g.out; omega
  have hhw : w.heap.size ≤ h := by have := Hg_h.out; have := hk_g.size; omega
  have hI2 : St RT w2 g s := (St.mk hb_g).kp hk_h (fun h => h)
  have hR2 : St RT w2 h (VS.mk 0 fun _ => 0) := St.mk hb_h
  have K2 := hk_g.trans hk_h
  clear hb_g hb_h hk_g hk_h Hg_g Hg_h
  refine (Ofc.out _).mono ?_
  rintro e w3 ⟨rfl, hk3⟩
  go_wp2_with (first
    | (((with_reducible refine gate_dst (N := 8) rfl ?_); refine al_ev rfl rfl (N := 8) rfl _ (zeroRow _) ?_; intro r hg_r w4 hb_r hk_r; have Hg_r := Aside0.mk hg_r; clear hg_r); have hI4 : St RT w4 g s := (hI2.kp hk3 (fun h => h)).kp hk_r (fun h => h); have hR4 : St RT w4 h (VS.mk 0 fun _ => 0) := (hR2.kp hk3 (fun h => h)).kp hk_r (fun h => h); have hgr : g ≠ r := (by have := Hg_r.out; have := (hI2.kp hk3 (fun h => h)).lt; omega); have hhr : h ≠ r := (by have := Hg_r.out; have := (hR2.kp hk3 (fun h => h)).lt; omega); have hwr : w.heap.size ≤ r := (by have := Hg_r.out; have := (K2.trans hk3).size; omega); have K4 := (K2.trans hk3).trans hk_r)
    | ((with_reducible refine gate_store (t := 119) (p := 8) rfl ?_); refine st_ev rfl rfl rfl r (rowC n0 nm (a : Int) 0) _ _ rfl rfl hb_r infoRow rfl (rowC_one _ _ _ _) ?_; intro w5 hs5 ks5; have hB5 : Bk w5 r (rowC n0 nm (a : Int) 0) 119 := ⟨hs5⟩; have r2 : w5.cell? ⟨r, 2, none⟩ = some (.int .i64 (a : Int)) := hB5.c 2; have r3 : w5.cell? ⟨r, 3, none⟩ = some (.int .u64 0) := hB5.c 3; have hI5 := hI4.kp ks5 hgr; have hR5 := hR4.kp ks5 hhr; have K5 : KpN w w5 := K4.then ks5 (fun i hi (e : i = r) => by omega)) | ((with_reducible refine gate_dst (N := 89) rfl ?_); refine wpList_load_row rfl 57 _ rfl g rfl _ (s.cells) (0, 0) _ (hI5.blk) Try.underlying57 rfl infoR ?_) | ((with_reducible refine gate_store (t := 57) (p := 6) rfl ?_); refine st_ev rfl rfl rfl h (s.cells) _ _ rfl rfl (hR5.blk) infoR rfl (VS.one _) ?_; intro wz hs_wz ks_wz))
  refine bodyPost_ret (results_cell_row rfl _ _ h 57 (s.cells) (0, 0) _ rfl (hs_wz) Try.underlying57 rfl infoR) rfl ?_
  exact ⟨rfl, K5.then ks_wz fun i hi (e : i = h) => by omega⟩
set_option maxHeartbeats 8000000 in
set_option maxRecDepth 100000 in
theorem rwrite_D6 (s : VS) (n : Int) (x : Nat) (n0 : Int) (nm : ByteArray) (m : Nat) (hmz : m ≠ 0) (hmU : U m) (hg : getW x 1 1 = 1) (w : World) (hs : s.ok) (hx : U x) (hn : NotFive n) (hof : ofR n = (n0, nm, 6, (m : Int), true)) :
    Calls Try.prog 43 #[.agg s.cells, .int .i64 n, .int .u64 (x : Int)] w fun e w' => e = .returned (.agg (s).cells) ∧ KpN w w' := by
  have b1 := hn.b1
  have b2 := hn.b2
  have b3 := hn.b3
  have b4 := hn.b4
  have b5 := hn.b5
  have ofc : ∀ w, Calls Try.prog 71 #[.int .i64 n] w fun e w' => e = .returned (.tuple #[.agg (rowC n0 nm 6 (m : Int)), .bool true]) ∧ KpN w w' := fun w => by
    have := of_c n w; rw [hof] at this; exact this
  have Ofc := Aside0.mk ofc
  clear ofc hof hn
  have hm0 : ((m : Int) == 0) = false := by rw [beq_eq_false_iff_ne]; omega
  have hm1 : U m := hmU
  clear hmz hmU
  have hb : (((getW x 1 1 : Nat) : Int) == 1) = true := by rw [hg]; rfl
  clear hg
  go_enter Try.func43, Try.ntmps43
  go_wp2_with (first | ((with_reducible refine gate_dst (N := 3) rfl ?_); refine bx_ev rfl rfl (N := 3) rfl (s.cells) rfl ?_; intro g hg_g w1 hb_g hk_g; have Hg_g := Aside0.mk hg_g; clear hg_g) | ((with_reducible refine gate_dst (N := 6) rfl ?_); refine al_ev rfl rfl (N := 6) rfl _ (zeroR _) ?_; intro h hg_h w2 hb_h hk_h; have Hg_h := Aside0.mk hg_h; clear hg_h))
  have hgh : h ≠ g := by have := Hg_h.out; have := blk_lt hb_g; omega
  have hgw : w.heap.size ≤ g := by have := Hg_g.out; omega
  have hhw : w.heap.size ≤ h := by have := Hg_h.out; have := hk_g.size; omega
  have hI2 : St RT w2 g s := (St.mk hb_g).kp hk_h (fun h => h)
  have hR2 : St RT w2 h (VS.mk 0 fun _ => 0) := St.mk hb_h
  have K2 := hk_g.trans hk_h
  clear hb_g hb_h hk_g hk_h Hg_g Hg_h
  refine (Ofc.out _).mono ?_
  rintro e w3 ⟨rfl, hk3⟩
  go_wp2_with (first
    | (((with_reducible refine gate_dst (N := 8) rfl ?_); refine al_ev rfl rfl (N := 8) rfl _ (zeroRow _) ?_; intro r hg_r w4 hb_r hk_r; have Hg_r := Aside0.mk hg_r; clear hg_r); have hI4 : St RT w4 g s := (hI2.kp hk3 (fun h => h)).kp hk_r (fun h => h); have hR4 : St RT w4 h (VS.mk 0 fun _ => 0) := (hR2.kp hk3 (fun h => h)).kp hk_r (fun h => h); have hgr : g ≠ r := (by have := Hg_r.out; have := (hI2.kp hk3 (fun h => h)).lt; omega); have hhr : h ≠ r := (by have := Hg_r.out; have := (hR2.kp hk3 (fun h => h)).lt; omega); have hwr : w.heap.size ≤ r := (by have := Hg_r.out; have := (K2.trans hk3).size; omega); have K4 := (K2.trans hk3).trans hk_r)
    | ((with_reducible refine gate_store (t := 119) (p := 8) rfl ?_); refine st_ev rfl rfl rfl r (rowC n0 nm 6 (m : Int)) _ _ rfl rfl hb_r infoRow rfl (rowC_one _ _ _ _) ?_; intro w5 hs5 ks5; have hB5 : Bk w5 r (rowC n0 nm 6 (m : Int)) 119 := ⟨hs5⟩; have r2 : w5.cell? ⟨r, 2, none⟩ = some (.int .i64 6) := hB5.c 2; have r3 : w5.cell? ⟨r, 3, none⟩ = some (.int .u64 (m : Int)) := hB5.c 3; have hI5 := hI4.kp ks5 hgr; have hR5 := hR4.kp ks5 hhr; have K5 : KpN w w5 := K4.then ks5 (fun i hi (e : i = r) => by omega)))
  refine (getr_c x 1 1 _ hx).mono ?_
  rintro e w6 ⟨rfl, hk6⟩
  have hI6 := hI5.kp hk6 (fun h => h)
  have hR6 := hR5.kp hk6 (fun h => h)
  have hB6 := hB5.kp hk6 (fun h => h)
  have r2 : w6.cell? ⟨r, 2, none⟩ = some (.int .i64 6) := hB6.c 2
  have r3 : w6.cell? ⟨r, 3, none⟩ = some (.int .u64 (m : Int)) := hB6.c 3
  have K6 := K5.trans hk6
  go_wp2_with (first | ((with_reducible refine gate_dst (N := 103) rfl ?_); refine wpList_load_row rfl 57 _ rfl g rfl _ (s.cells) (0, 0) _ (hI6.blk) Try.underlying57 rfl infoR ?_) | ((with_reducible refine gate_store (t := 57) (p := 6) rfl ?_); refine st_ev rfl rfl rfl h (s.cells) _ _ rfl rfl (hR6.blk) infoR rfl (VS.one _) ?_; intro wz hs_wz ks_wz))
  refine bodyPost_ret (results_cell_row rfl _ _ h 57 (s.cells) (0, 0) _ rfl (hs_wz) Try.underlying57 rfl infoR) rfl ?_
  exact ⟨rfl, K6.then ks_wz fun i hi (e : i = h) => by omega⟩
set_option maxHeartbeats 8000000 in
set_option maxRecDepth 100000 in
theorem rwrite_F6 (s : VS) (n : Int) (x : Nat) (n0 : Int) (nm : ByteArray) (m : Nat) (hmz : m ≠ 0) (hmU : U m) (hg : getW x 1 1 ≠ 1) (w : World) (hs : s.ok) (hx : U x) (hn : NotFive n) (hof : ofR n = (n0, nm, 6, (m : Int), true)) :
    Calls Try.prog 43 #[.agg s.cells, .int .i64 n, .int .u64 (x : Int)] w fun e w' => e = .returned (.agg (s.set 7 (x &&& m)).cells) ∧ KpN w w' := by
  have b1 := hn.b1
  have b2 := hn.b2
  have b3 := hn.b3
  have b4 := hn.b4
  have b5 := hn.b5
  have ofc : ∀ w, Calls Try.prog 71 #[.int .i64 n] w fun e w' => e = .returned (.tuple #[.agg (rowC n0 nm 6 (m : Int)), .bool true]) ∧ KpN w w' := fun w => by
    have := of_c n w; rw [hof] at this; exact this
  have Ofc := Aside0.mk ofc
  clear ofc hof hn
  have hm0 : ((m : Int) == 0) = false := by rw [beq_eq_false_iff_ne]; omega
  have hm1 : U m := hmU
  clear hmz hmU
  have hb : (((getW x 1 1 : Nat) : Int) == 1) = false := by rw [beq_eq_false_iff_ne]; omega
  clear hg
  go_enter Try.func43, Try.ntmps43
  go_wp2_with (first | ((with_reducible refine gate_dst (N := 3) rfl ?_); refine bx_ev rfl rfl (N := 3) rfl (s.cells) rfl ?_; intro g hg_g w1 hb_g hk_g; have Hg_g := Aside0.mk hg_g; clear hg_g) | ((with_reducible refine gate_dst (N := 6) rfl ?_); refine al_ev rfl rfl (N := 6) rfl _ (zeroR _) ?_; intro h hg_h w2 hb_h hk_h; have Hg_h := Aside0.mk hg_h; clear hg_h))
  have hgh : h ≠ g := by have := Hg_h.out; have := blk_lt hb_g; omega
  have hgw : w.heap.size ≤ g := by have := Hg_g.out; omega
  have hhw : w.heap.size ≤ h := by have := Hg_h.out; have := hk_g.size; omega
  have hI2 : St RT w2 g s := (St.mk hb_g).kp hk_h (fun h => h)
  have hR2 : St RT w2 h (VS.mk 0 fun _ => 0) := St.mk hb_h
  have K2 := hk_g.trans hk_h
  clear hb_g hb_h hk_g hk_h Hg_g Hg_h
  refine (Ofc.out _).mono ?_
  rintro e w3 ⟨rfl, hk3⟩
  go_wp2_with (first
    | (((with_reducible refine gate_dst (N := 8) rfl ?_); refine al_ev rfl rfl (N := 8) rfl _ (zeroRow _) ?_; intro r hg_r w4 hb_r hk_r; have Hg_r := Aside0.mk hg_r; clear hg_r); have hI4 : St RT w4 g s := (hI2.kp hk3 (fun h => h)).kp hk_r (fun h => h); have hR4 : St RT w4 h (VS.mk 0 fun _ => 0) := (hR2.kp hk3 (fun h => h)).kp hk_r (fun h => h); have hgr : g ≠ r := (by have := Hg_r.out; have := (hI2.kp hk3 (fun h => h)).lt; omega); have hhr : h ≠ r := (by have := Hg_r.out; have := (hR2.kp hk3 (fun h => h)).lt; omega); have hwr : w.heap.size ≤ r := (by have := Hg_r.out; have := (K2.trans hk3).size; omega); have K4 := (K2.trans hk3).trans hk_r)
    | ((with_reducible refine gate_store (t := 119) (p := 8) rfl ?_); refine st_ev rfl rfl rfl r (rowC n0 nm 6 (m : Int)) _ _ rfl rfl hb_r infoRow rfl (rowC_one _ _ _ _) ?_; intro w5 hs5 ks5; have hB5 : Bk w5 r (rowC n0 nm 6 (m : Int)) 119 := ⟨hs5⟩; have r2 : w5.cell? ⟨r, 2, none⟩ = some (.int .i64 6) := hB5.c 2; have r3 : w5.cell? ⟨r, 3, none⟩ = some (.int .u64 (m : Int)) := hB5.c 3; have hI5 := hI4.kp ks5 hgr; have hR5 := hR4.kp ks5 hhr; have K5 : KpN w w5 := K4.then ks5 (fun i hi (e : i = r) => by omega)))
  refine (getr_c x 1 1 _ hx).mono ?_
  rintro e w6 ⟨rfl, hk6⟩
  have hI6 := hI5.kp hk6 (fun h => h)
  have hR6 := hR5.kp hk6 (fun h => h)
  have hB6 := hB5.kp hk6 (fun h => h)
  have r2 : w6.cell? ⟨r, 2, none⟩ = some (.int .i64 6) := hB6.c 2
  have r3 : w6.cell? ⟨r, 3, none⟩ = some (.int .u64 (m : Int)) := hB6.c 3
  have K6 := K5.trans hk6
  go_wp2_with (fail)
  refine (getr_c x 60 4 _ hx).mono ?_
  rintro e w7 ⟨rfl, hk7⟩
  have hI7 := hI6.kp hk7 (fun h => h)
  have hR7 := hR6.kp hk7 (fun h => h)
  have hB7 := hB6.kp hk7 (fun h => h)
  have r2 : w7.cell? ⟨r, 2, none⟩ = some (.int .i64 6) := hB7.c 2
  have r3 : w7.cell? ⟨r, 3, none⟩ = some (.int .u64 (m : Int)) := hB7.c 3
  have K7 := K6.trans hk7
  go_wp2_with (fail)
  have cJ := hI7.c 7
  have fJ := hI7.f 7
  go_region_with (go_at_call 45; refine (and_r x m _ hx hm1).mono ?_; rintro e wy ⟨rfl, hky⟩; have hBy := hB7.drew.kp hky (fun h => h); have r2y : wy.cell? ⟨r, 2, none⟩ = some (.int .i64 6) := hBy.c 2; have hIy := hI7.drew.kp hky (fun h => h); have cy := hIy.c 7; have fy := hIy.f 7)
  all_goals
    have hRy := hR7.drew.kp hky (fun h => h)
    have Ky := K7.drew.trans hky
    go_wp2_with (first | ((with_reducible refine gate_dst (N := 126) rfl ?_); refine wpList_load_row rfl 57 _ rfl g rfl _ ((s.set 7 (x &&& m)).cells) (0, 0) _ ((hIy.set 7 _).blk) Try.underlying57 rfl infoR ?_) | ((with_reducible refine gate_store (t := 57) (p := 6) rfl ?_); refine st_ev rfl rfl rfl h ((s.set 7 (x &&& m)).cells) _ _ rfl rfl ((hRy.far hgh _).blk) infoR rfl (VS.one _) ?_; intro wz hs_wz ks_wz))
    refine bodyPost_ret (results_cell_row rfl _ _ h 57 ((s.set 7 (x &&& m)).cells) (0, 0) _ rfl (hs_wz) Try.underlying57 rfl infoR) rfl ?_
    exact ⟨rfl, (Ky.setCell (p := ⟨g, 7, none⟩) (.inr hgw) _).then ks_wz fun i hi (e : i = h) => by omega⟩
set_option maxHeartbeats 8000000 in
set_option maxRecDepth 100000 in
theorem rwrite_D12 (s : VS) (n : Int) (x : Nat) (n0 : Int) (nm : ByteArray) (m : Nat) (hmz : m ≠ 0) (hmU : U m) (hg : getW x 1 1 = 1) (w : World) (hs : s.ok) (hx : U x) (hn : NotFive n) (hof : ofR n = (n0, nm, 12, (m : Int), true)) :
    Calls Try.prog 43 #[.agg s.cells, .int .i64 n, .int .u64 (x : Int)] w fun e w' => e = .returned (.agg (s).cells) ∧ KpN w w' := by
  have b1 := hn.b1
  have b2 := hn.b2
  have b3 := hn.b3
  have b4 := hn.b4
  have b5 := hn.b5
  have ofc : ∀ w, Calls Try.prog 71 #[.int .i64 n] w fun e w' => e = .returned (.tuple #[.agg (rowC n0 nm 12 (m : Int)), .bool true]) ∧ KpN w w' := fun w => by
    have := of_c n w; rw [hof] at this; exact this
  have Ofc := Aside0.mk ofc
  clear ofc hof hn
  have hm0 : ((m : Int) == 0) = false := by rw [beq_eq_false_iff_ne]; omega
  have hm1 : U m := hmU
  clear hmz hmU
  have hb : (((getW x 1 1 : Nat) : Int) == 1) = true := by rw [hg]; rfl
  clear hg
  go_enter Try.func43, Try.ntmps43
  go_wp2_with (first | ((with_reducible refine gate_dst (N := 3) rfl ?_); refine bx_ev rfl rfl (N := 3) rfl (s.cells) rfl ?_; intro g hg_g w1 hb_g hk_g; have Hg_g := Aside0.mk hg_g; clear hg_g) | ((with_reducible refine gate_dst (N := 6) rfl ?_); refine al_ev rfl rfl (N := 6) rfl _ (zeroR _) ?_; intro h hg_h w2 hb_h hk_h; have Hg_h := Aside0.mk hg_h; clear hg_h))
  have hgh : h ≠ g := by have := Hg_h.out; have := blk_lt hb_g; omega
  have hgw : w.heap.size ≤ g := by have := Hg_g.out; omega
  have hhw : w.heap.size ≤ h := by have := Hg_h.out; have := hk_g.size; omega
  have hI2 : St RT w2 g s := (St.mk hb_g).kp hk_h (fun h => h)
  have hR2 : St RT w2 h (VS.mk 0 fun _ => 0) := St.mk hb_h
  have K2 := hk_g.trans hk_h
  clear hb_g hb_h hk_g hk_h Hg_g Hg_h
  refine (Ofc.out _).mono ?_
  rintro e w3 ⟨rfl, hk3⟩
  go_wp2_with (first
    | (((with_reducible refine gate_dst (N := 8) rfl ?_); refine al_ev rfl rfl (N := 8) rfl _ (zeroRow _) ?_; intro r hg_r w4 hb_r hk_r; have Hg_r := Aside0.mk hg_r; clear hg_r); have hI4 : St RT w4 g s := (hI2.kp hk3 (fun h => h)).kp hk_r (fun h => h); have hR4 : St RT w4 h (VS.mk 0 fun _ => 0) := (hR2.kp hk3 (fun h => h)).kp hk_r (fun h => h); have hgr : g ≠ r := (by have := Hg_r.out; have := (hI2.kp hk3 (fun h => h)).lt; omega); have hhr : h ≠ r := (by have := Hg_r.out; have := (hR2.kp hk3 (fun h => h)).lt; omega); have hwr : w.heap.size ≤ r := (by have := Hg_r.out; have := (K2.trans hk3).size; omega); have K4 := (K2.trans hk3).trans hk_r)
    | ((with_reducible refine gate_store (t := 119) (p := 8) rfl ?_); refine st_ev rfl rfl rfl r (rowC n0 nm 12 (m : Int)) _ _ rfl rfl hb_r infoRow rfl (rowC_one _ _ _ _) ?_; intro w5 hs5 ks5; have hB5 : Bk w5 r (rowC n0 nm 12 (m : Int)) 119 := ⟨hs5⟩; have r2 : w5.cell? ⟨r, 2, none⟩ = some (.int .i64 12) := hB5.c 2; have r3 : w5.cell? ⟨r, 3, none⟩ = some (.int .u64 (m : Int)) := hB5.c 3; have hI5 := hI4.kp ks5 hgr; have hR5 := hR4.kp ks5 hhr; have K5 : KpN w w5 := K4.then ks5 (fun i hi (e : i = r) => by omega)))
  refine (getr_c x 1 1 _ hx).mono ?_
  rintro e w6 ⟨rfl, hk6⟩
  have hI6 := hI5.kp hk6 (fun h => h)
  have hR6 := hR5.kp hk6 (fun h => h)
  have hB6 := hB5.kp hk6 (fun h => h)
  have r2 : w6.cell? ⟨r, 2, none⟩ = some (.int .i64 12) := hB6.c 2
  have r3 : w6.cell? ⟨r, 3, none⟩ = some (.int .u64 (m : Int)) := hB6.c 3
  have K6 := K5.trans hk6
  go_wp2_with (first | ((with_reducible refine gate_dst (N := 103) rfl ?_); refine wpList_load_row rfl 57 _ rfl g rfl _ (s.cells) (0, 0) _ (hI6.blk) Try.underlying57 rfl infoR ?_) | ((with_reducible refine gate_store (t := 57) (p := 6) rfl ?_); refine st_ev rfl rfl rfl h (s.cells) _ _ rfl rfl (hR6.blk) infoR rfl (VS.one _) ?_; intro wz hs_wz ks_wz))
  refine bodyPost_ret (results_cell_row rfl _ _ h 57 (s.cells) (0, 0) _ rfl (hs_wz) Try.underlying57 rfl infoR) rfl ?_
  exact ⟨rfl, K6.then ks_wz fun i hi (e : i = h) => by omega⟩
set_option maxHeartbeats 8000000 in
set_option maxRecDepth 100000 in
theorem rwrite_F12 (s : VS) (n : Int) (x : Nat) (n0 : Int) (nm : ByteArray) (m : Nat) (hmz : m ≠ 0) (hmU : U m) (hg : getW x 1 1 ≠ 1) (w : World) (hs : s.ok) (hx : U x) (hn : NotFive n) (hof : ofR n = (n0, nm, 12, (m : Int), true)) :
    Calls Try.prog 43 #[.agg s.cells, .int .i64 n, .int .u64 (x : Int)] w fun e w' => e = .returned (.agg (s.set 13 (x &&& m)).cells) ∧ KpN w w' := by
  have b1 := hn.b1
  have b2 := hn.b2
  have b3 := hn.b3
  have b4 := hn.b4
  have b5 := hn.b5
  have ofc : ∀ w, Calls Try.prog 71 #[.int .i64 n] w fun e w' => e = .returned (.tuple #[.agg (rowC n0 nm 12 (m : Int)), .bool true]) ∧ KpN w w' := fun w => by
    have := of_c n w; rw [hof] at this; exact this
  have Ofc := Aside0.mk ofc
  clear ofc hof hn
  have hm0 : ((m : Int) == 0) = false := by rw [beq_eq_false_iff_ne]; omega
  have hm1 : U m := hmU
  clear hmz hmU
  have hb : (((getW x 1 1 : Nat) : Int) == 1) = false := by rw [beq_eq_false_iff_ne]; omega
  clear hg
  go_enter Try.func43, Try.ntmps43
  go_wp2_with (first | ((with_reducible refine gate_dst (N := 3) rfl ?_); refine bx_ev rfl rfl (N := 3) rfl (s.cells) rfl ?_; intro g hg_g w1 hb_g hk_g; have Hg_g := Aside0.mk hg_g; clear hg_g) | ((with_reducible refine gate_dst (N := 6) rfl ?_); refine al_ev rfl rfl (N := 6) rfl _ (zeroR _) ?_; intro h hg_h w2 hb_h hk_h; have Hg_h := Aside0.mk hg_h; clear hg_h))
  have hgh : h ≠ g := by have := Hg_h.out; have := blk_lt hb_g; omega
  have hgw : w.heap.size ≤ g := by have := Hg_g.out; omega
  have hhw : w.heap.size ≤ h := by have := Hg_h.out; have := hk_g.size; omega
  have hI2 : St RT w2 g s := (St.mk hb_g).kp hk_h (fun h => h)
  have hR2 : St RT w2 h (VS.mk 0 fun _ => 0) := St.mk hb_h
  have K2 := hk_g.trans hk_h
  clear hb_g hb_h hk_g hk_h Hg_g Hg_h
  refine (Ofc.out _).mono ?_
  rintro e w3 ⟨rfl, hk3⟩
  go_wp2_with (first
    | (((with_reducible refine gate_dst (N := 8) rfl ?_); refine al_ev rfl rfl (N := 8) rfl _ (zeroRow _) ?_; intro r hg_r w4 hb_r hk_r; have Hg_r := Aside0.mk hg_r; clear hg_r); have hI4 : St RT w4 g s := (hI2.kp hk3 (fun h => h)).kp hk_r (fun h => h); have hR4 : St RT w4 h (VS.mk 0 fun _ => 0) := (hR2.kp hk3 (fun h => h)).kp hk_r (fun h => h); have hgr : g ≠ r := (by have := Hg_r.out; have := (hI2.kp hk3 (fun h => h)).lt; omega); have hhr : h ≠ r := (by have := Hg_r.out; have := (hR2.kp hk3 (fun h => h)).lt; omega); have hwr : w.heap.size ≤ r := (by have := Hg_r.out; have := (K2.trans hk3).size; omega); have K4 := (K2.trans hk3).trans hk_r)
    | ((with_reducible refine gate_store (t := 119) (p := 8) rfl ?_); refine st_ev rfl rfl rfl r (rowC n0 nm 12 (m : Int)) _ _ rfl rfl hb_r infoRow rfl (rowC_one _ _ _ _) ?_; intro w5 hs5 ks5; have hB5 : Bk w5 r (rowC n0 nm 12 (m : Int)) 119 := ⟨hs5⟩; have r2 : w5.cell? ⟨r, 2, none⟩ = some (.int .i64 12) := hB5.c 2; have r3 : w5.cell? ⟨r, 3, none⟩ = some (.int .u64 (m : Int)) := hB5.c 3; have hI5 := hI4.kp ks5 hgr; have hR5 := hR4.kp ks5 hhr; have K5 : KpN w w5 := K4.then ks5 (fun i hi (e : i = r) => by omega)))
  refine (getr_c x 1 1 _ hx).mono ?_
  rintro e w6 ⟨rfl, hk6⟩
  have hI6 := hI5.kp hk6 (fun h => h)
  have hR6 := hR5.kp hk6 (fun h => h)
  have hB6 := hB5.kp hk6 (fun h => h)
  have r2 : w6.cell? ⟨r, 2, none⟩ = some (.int .i64 12) := hB6.c 2
  have r3 : w6.cell? ⟨r, 3, none⟩ = some (.int .u64 (m : Int)) := hB6.c 3
  have K6 := K5.trans hk6
  go_wp2_with (fail)
  refine (getr_c x 60 4 _ hx).mono ?_
  rintro e w7 ⟨rfl, hk7⟩
  have hI7 := hI6.kp hk7 (fun h => h)
  have hR7 := hR6.kp hk7 (fun h => h)
  have hB7 := hB6.kp hk7 (fun h => h)
  have r2 : w7.cell? ⟨r, 2, none⟩ = some (.int .i64 12) := hB7.c 2
  have r3 : w7.cell? ⟨r, 3, none⟩ = some (.int .u64 (m : Int)) := hB7.c 3
  have K7 := K6.trans hk7
  go_wp2_with (fail)
  have cJ := hI7.c 13
  have fJ := hI7.f 13
  go_region_with (go_at_call 45; refine (and_r x m _ hx hm1).mono ?_; rintro e wy ⟨rfl, hky⟩; have hBy := hB7.drew.kp hky (fun h => h); have r2y : wy.cell? ⟨r, 2, none⟩ = some (.int .i64 12) := hBy.c 2; have hIy := hI7.drew.kp hky (fun h => h); have cy := hIy.c 13; have fy := hIy.f 13)
  all_goals
    have hRy := hR7.drew.kp hky (fun h => h)
    have Ky := K7.drew.trans hky
    go_wp2_with (first | ((with_reducible refine gate_dst (N := 126) rfl ?_); refine wpList_load_row rfl 57 _ rfl g rfl _ ((s.set 13 (x &&& m)).cells) (0, 0) _ ((hIy.set 13 _).blk) Try.underlying57 rfl infoR ?_) | ((with_reducible refine gate_store (t := 57) (p := 6) rfl ?_); refine st_ev rfl rfl rfl h ((s.set 13 (x &&& m)).cells) _ _ rfl rfl ((hRy.far hgh _).blk) infoR rfl (VS.one _) ?_; intro wz hs_wz ks_wz))
    refine bodyPost_ret (results_cell_row rfl _ _ h 57 ((s.set 13 (x &&& m)).cells) (0, 0) _ rfl (hs_wz) Try.underlying57 rfl infoR) rfl ?_
    exact ⟨rfl, (Ky.setCell (p := ⟨g, 13, none⟩) (.inr hgw) _).then ks_wz fun i hi (e : i = h) => by omega⟩
set_option maxHeartbeats 8000000 in
set_option maxRecDepth 100000 in
theorem rwrite_E (s : VS) (n : Int) (x : Nat) (n0 : Int) (nm : ByteArray) (m : Nat) (hmz : m ≠ 0) (hmU : U m) (h0 : getW x 60 4 ≠ 0) (h8 : getW x 60 4 ≠ 8) (w : World) (hs : s.ok) (hx : U x) (hn : NotFive n) (hof : ofR n = (n0, nm, 18, (m : Int), true)) :
    Calls Try.prog 43 #[.agg s.cells, .int .i64 n, .int .u64 (x : Int)] w fun e w' => e = .returned (.agg (s).cells) ∧ KpN w w' := by
  have b1 := hn.b1
  have b2 := hn.b2
  have b3 := hn.b3
  have b4 := hn.b4
  have b5 := hn.b5
  have ofc : ∀ w, Calls Try.prog 71 #[.int .i64 n] w fun e w' => e = .returned (.tuple #[.agg (rowC n0 nm 18 (m : Int)), .bool true]) ∧ KpN w w' := fun w => by
    have := of_c n w; rw [hof] at this; exact this
  have Ofc := Aside0.mk ofc
  clear ofc hof hn
  have hm0 : ((m : Int) == 0) = false := by rw [beq_eq_false_iff_ne]; omega
  have hm1 : U m := hmU
  clear hmz hmU
  have hb : (((getW x 60 4 : Nat) : Int) != 0) = true := by rw [bne_iff_ne]; omega
  have hb8 : (((getW x 60 4 : Nat) : Int) != 8) = true := by rw [bne_iff_ne]; omega
  clear h0 h8
  go_enter Try.func43, Try.ntmps43
  go_wp2_with (first | ((with_reducible refine gate_dst (N := 3) rfl ?_); refine bx_ev rfl rfl (N := 3) rfl (s.cells) rfl ?_; intro g hg_g w1 hb_g hk_g; have Hg_g := Aside0.mk hg_g; clear hg_g) | ((with_reducible refine gate_dst (N := 6) rfl ?_); refine al_ev rfl rfl (N := 6) rfl _ (zeroR _) ?_; intro h hg_h w2 hb_h hk_h; have Hg_h := Aside0.mk hg_h; clear hg_h))
  have hgh : h ≠ g := by have := Hg_h.out; have := blk_lt hb_g; omega
  have hgw : w.heap.size ≤ g := by have := Hg_g.out; omega
  have hhw : w.heap.size ≤ h := by have := Hg_h.out; have := hk_g.size; omega
  have hI2 : St RT w2 g s := (St.mk hb_g).kp hk_h (fun h => h)
  have hR2 : St RT w2 h (VS.mk 0 fun _ => 0) := St.mk hb_h
  have K2 := hk_g.trans hk_h
  clear hb_g hb_h hk_g hk_h Hg_g Hg_h
  refine (Ofc.out _).mono ?_
  rintro e w3 ⟨rfl, hk3⟩
  go_wp2_with (first
    | (((with_reducible refine gate_dst (N := 8) rfl ?_); refine al_ev rfl rfl (N := 8) rfl _ (zeroRow _) ?_; intro r hg_r w4 hb_r hk_r; have Hg_r := Aside0.mk hg_r; clear hg_r); have hI4 : St RT w4 g s := (hI2.kp hk3 (fun h => h)).kp hk_r (fun h => h); have hR4 : St RT w4 h (VS.mk 0 fun _ => 0) := (hR2.kp hk3 (fun h => h)).kp hk_r (fun h => h); have hgr : g ≠ r := (by have := Hg_r.out; have := (hI2.kp hk3 (fun h => h)).lt; omega); have hhr : h ≠ r := (by have := Hg_r.out; have := (hR2.kp hk3 (fun h => h)).lt; omega); have hwr : w.heap.size ≤ r := (by have := Hg_r.out; have := (K2.trans hk3).size; omega); have K4 := (K2.trans hk3).trans hk_r)
    | ((with_reducible refine gate_store (t := 119) (p := 8) rfl ?_); refine st_ev rfl rfl rfl r (rowC n0 nm 18 (m : Int)) _ _ rfl rfl hb_r infoRow rfl (rowC_one _ _ _ _) ?_; intro w5 hs5 ks5; have hB5 : Bk w5 r (rowC n0 nm 18 (m : Int)) 119 := ⟨hs5⟩; have r2 : w5.cell? ⟨r, 2, none⟩ = some (.int .i64 18) := hB5.c 2; have r3 : w5.cell? ⟨r, 3, none⟩ = some (.int .u64 (m : Int)) := hB5.c 3; have hI5 := hI4.kp ks5 hgr; have hR5 := hR4.kp ks5 hhr; have K5 : KpN w w5 := K4.then ks5 (fun i hi (e : i = r) => by omega)))
  refine (getr_c x 60 4 _ hx).mono ?_
  rintro e w6 ⟨rfl, hk6⟩
  have hI6 := hI5.kp hk6 (fun h => h)
  have hR6 := hR5.kp hk6 (fun h => h)
  have hB6 := hB5.kp hk6 (fun h => h)
  have r2 : w6.cell? ⟨r, 2, none⟩ = some (.int .i64 18) := hB6.c 2
  have r3 : w6.cell? ⟨r, 3, none⟩ = some (.int .u64 (m : Int)) := hB6.c 3
  have K6 := K5.trans hk6
  go_wp2_with (first | ((with_reducible refine gate_dst (N := 117) rfl ?_); refine wpList_load_row rfl 57 _ rfl g rfl _ (s.cells) (0, 0) _ (hI6.blk) Try.underlying57 rfl infoR ?_) | ((with_reducible refine gate_store (t := 57) (p := 6) rfl ?_); refine st_ev rfl rfl rfl h (s.cells) _ _ rfl rfl (hR6.blk) infoR rfl (VS.one _) ?_; intro wz hs_wz ks_wz))
  refine bodyPost_ret (results_cell_row rfl _ _ h 57 (s.cells) (0, 0) _ rfl (hs_wz) Try.underlying57 rfl infoR) rfl ?_
  exact ⟨rfl, K6.then ks_wz fun i hi (e : i = h) => by omega⟩
set_option maxHeartbeats 8000000 in
set_option maxRecDepth 100000 in
theorem rwrite_F18a (s : VS) (n : Int) (x : Nat) (n0 : Int) (nm : ByteArray) (m : Nat) (hmz : m ≠ 0) (hmU : U m) (h0 : getW x 60 4 = 0) (w : World) (hs : s.ok) (hx : U x) (hn : NotFive n) (hof : ofR n = (n0, nm, 18, (m : Int), true)) :
    Calls Try.prog 43 #[.agg s.cells, .int .i64 n, .int .u64 (x : Int)] w fun e w' => e = .returned (.agg (s.set 19 (x &&& m)).cells) ∧ KpN w w' := by
  have b1 := hn.b1
  have b2 := hn.b2
  have b3 := hn.b3
  have b4 := hn.b4
  have b5 := hn.b5
  have ofc : ∀ w, Calls Try.prog 71 #[.int .i64 n] w fun e w' => e = .returned (.tuple #[.agg (rowC n0 nm 18 (m : Int)), .bool true]) ∧ KpN w w' := fun w => by
    have := of_c n w; rw [hof] at this; exact this
  have Ofc := Aside0.mk ofc
  clear ofc hof hn
  have hm0 : ((m : Int) == 0) = false := by rw [beq_eq_false_iff_ne]; omega
  have hm1 : U m := hmU
  clear hmz hmU
  have hb : (((getW x 60 4 : Nat) : Int) != 0) = false := by rw [h0]; rfl
  clear h0
  go_enter Try.func43, Try.ntmps43
  go_wp2_with (first | ((with_reducible refine gate_dst (N := 3) rfl ?_); refine bx_ev rfl rfl (N := 3) rfl (s.cells) rfl ?_; intro g hg_g w1 hb_g hk_g; have Hg_g := Aside0.mk hg_g; clear hg_g) | ((with_reducible refine gate_dst (N := 6) rfl ?_); refine al_ev rfl rfl (N := 6) rfl _ (zeroR _) ?_; intro h hg_h w2 hb_h hk_h; have Hg_h := Aside0.mk hg_h; clear hg_h))
  have hgh : h ≠ g := by have := Hg_h.out; have := blk_lt hb_g; omega
  have hgw : w.heap.size ≤ g := by have := Hg_g.out; omega
  have hhw : w.heap.size ≤ h := by have := Hg_h.out; have := hk_g.size; omega
  have hI2 : St RT w2 g s := (St.mk hb_g).kp hk_h (fun h => h)
  have hR2 : St RT w2 h (VS.mk 0 fun _ => 0) := St.mk hb_h
  have K2 := hk_g.trans hk_h
  clear hb_g hb_h hk_g hk_h Hg_g Hg_h
  refine (Ofc.out _).mono ?_
  rintro e w3 ⟨rfl, hk3⟩
  go_wp2_with (first
    | (((with_reducible refine gate_dst (N := 8) rfl ?_); refine al_ev rfl rfl (N := 8) rfl _ (zeroRow _) ?_; intro r hg_r w4 hb_r hk_r; have Hg_r := Aside0.mk hg_r; clear hg_r); have hI4 : St RT w4 g s := (hI2.kp hk3 (fun h => h)).kp hk_r (fun h => h); have hR4 : St RT w4 h (VS.mk 0 fun _ => 0) := (hR2.kp hk3 (fun h => h)).kp hk_r (fun h => h); have hgr : g ≠ r := (by have := Hg_r.out; have := (hI2.kp hk3 (fun h => h)).lt; omega); have hhr : h ≠ r := (by have := Hg_r.out; have := (hR2.kp hk3 (fun h => h)).lt; omega); have hwr : w.heap.size ≤ r := (by have := Hg_r.out; have := (K2.trans hk3).size; omega); have K4 := (K2.trans hk3).trans hk_r)
    | ((with_reducible refine gate_store (t := 119) (p := 8) rfl ?_); refine st_ev rfl rfl rfl r (rowC n0 nm 18 (m : Int)) _ _ rfl rfl hb_r infoRow rfl (rowC_one _ _ _ _) ?_; intro w5 hs5 ks5; have hB5 : Bk w5 r (rowC n0 nm 18 (m : Int)) 119 := ⟨hs5⟩; have r2 : w5.cell? ⟨r, 2, none⟩ = some (.int .i64 18) := hB5.c 2; have r3 : w5.cell? ⟨r, 3, none⟩ = some (.int .u64 (m : Int)) := hB5.c 3; have hI5 := hI4.kp ks5 hgr; have hR5 := hR4.kp ks5 hhr; have K5 : KpN w w5 := K4.then ks5 (fun i hi (e : i = r) => by omega)))
  refine (getr_c x 60 4 _ hx).mono ?_
  rintro e w6 ⟨rfl, hk6⟩
  have hI6 := hI5.kp hk6 (fun h => h)
  have hR6 := hR5.kp hk6 (fun h => h)
  have hB6 := hB5.kp hk6 (fun h => h)
  have r2 : w6.cell? ⟨r, 2, none⟩ = some (.int .i64 18) := hB6.c 2
  have r3 : w6.cell? ⟨r, 3, none⟩ = some (.int .u64 (m : Int)) := hB6.c 3
  have K6 := K5.trans hk6
  go_wp2_with (fail)
  have cJ := hI6.c 19
  have fJ := hI6.f 19
  go_region_with (go_at_call 45; refine (and_r x m _ hx hm1).mono ?_; rintro e wy ⟨rfl, hky⟩; have hBy := hB6.drew.kp hky (fun h => h); have r2y : wy.cell? ⟨r, 2, none⟩ = some (.int .i64 18) := hBy.c 2; have hIy := hI6.drew.kp hky (fun h => h); have cy := hIy.c 19; have fy := hIy.f 19)
  all_goals
    have hRy := hR6.drew.kp hky (fun h => h)
    have Ky := K6.drew.trans hky
    go_wp2_with (first | ((with_reducible refine gate_dst (N := 126) rfl ?_); refine wpList_load_row rfl 57 _ rfl g rfl _ ((s.set 19 (x &&& m)).cells) (0, 0) _ ((hIy.set 19 _).blk) Try.underlying57 rfl infoR ?_) | ((with_reducible refine gate_store (t := 57) (p := 6) rfl ?_); refine st_ev rfl rfl rfl h ((s.set 19 (x &&& m)).cells) _ _ rfl rfl ((hRy.far hgh _).blk) infoR rfl (VS.one _) ?_; intro wz hs_wz ks_wz))
    refine bodyPost_ret (results_cell_row rfl _ _ h 57 ((s.set 19 (x &&& m)).cells) (0, 0) _ rfl (hs_wz) Try.underlying57 rfl infoR) rfl ?_
    exact ⟨rfl, (Ky.setCell (p := ⟨g, 19, none⟩) (.inr hgw) _).then ks_wz fun i hi (e : i = h) => by omega⟩
set_option maxHeartbeats 8000000 in
set_option maxRecDepth 100000 in
theorem rwrite_F18b (s : VS) (n : Int) (x : Nat) (n0 : Int) (nm : ByteArray) (m : Nat) (hmz : m ≠ 0) (hmU : U m) (h8 : getW x 60 4 = 8) (w : World) (hs : s.ok) (hx : U x) (hn : NotFive n) (hof : ofR n = (n0, nm, 18, (m : Int), true)) :
    Calls Try.prog 43 #[.agg s.cells, .int .i64 n, .int .u64 (x : Int)] w fun e w' => e = .returned (.agg (s.set 19 (x &&& m)).cells) ∧ KpN w w' := by
  have b1 := hn.b1
  have b2 := hn.b2
  have b3 := hn.b3
  have b4 := hn.b4
  have b5 := hn.b5
  have ofc : ∀ w, Calls Try.prog 71 #[.int .i64 n] w fun e w' => e = .returned (.tuple #[.agg (rowC n0 nm 18 (m : Int)), .bool true]) ∧ KpN w w' := fun w => by
    have := of_c n w; rw [hof] at this; exact this
  have Ofc := Aside0.mk ofc
  clear ofc hof hn
  have hm0 : ((m : Int) == 0) = false := by rw [beq_eq_false_iff_ne]; omega
  have hm1 : U m := hmU
  clear hmz hmU
  have hb : (((getW x 60 4 : Nat) : Int) != 0) = true := by rw [h8]; rfl
  have hb8 : (((getW x 60 4 : Nat) : Int) != 8) = false := by rw [h8]; rfl
  clear h8
  go_enter Try.func43, Try.ntmps43
  go_wp2_with (first | ((with_reducible refine gate_dst (N := 3) rfl ?_); refine bx_ev rfl rfl (N := 3) rfl (s.cells) rfl ?_; intro g hg_g w1 hb_g hk_g; have Hg_g := Aside0.mk hg_g; clear hg_g) | ((with_reducible refine gate_dst (N := 6) rfl ?_); refine al_ev rfl rfl (N := 6) rfl _ (zeroR _) ?_; intro h hg_h w2 hb_h hk_h; have Hg_h := Aside0.mk hg_h; clear hg_h))
  have hgh : h ≠ g := by have := Hg_h.out; have := blk_lt hb_g; omega
  have hgw : w.heap.size ≤ g := by have := Hg_g.out; omega
  have hhw : w.heap.size ≤ h := by have := Hg_h.out; have := hk_g.size; omega
  have hI2 : St RT w2 g s := (St.mk hb_g).kp hk_h (fun h => h)
  have hR2 : St RT w2 h (VS.mk 0 fun _ => 0) := St.mk hb_h
  have K2 := hk_g.trans hk_h
  clear hb_g hb_h hk_g hk_h Hg_g Hg_h
  refine (Ofc.out _).mono ?_
  rintro e w3 ⟨rfl, hk3⟩
  go_wp2_with (first
    | (((with_reducible refine gate_dst (N := 8) rfl ?_); refine al_ev rfl rfl (N := 8) rfl _ (zeroRow _) ?_; intro r hg_r w4 hb_r hk_r; have Hg_r := Aside0.mk hg_r; clear hg_r); have hI4 : St RT w4 g s := (hI2.kp hk3 (fun h => h)).kp hk_r (fun h => h); have hR4 : St RT w4 h (VS.mk 0 fun _ => 0) := (hR2.kp hk3 (fun h => h)).kp hk_r (fun h => h); have hgr : g ≠ r := (by have := Hg_r.out; have := (hI2.kp hk3 (fun h => h)).lt; omega); have hhr : h ≠ r := (by have := Hg_r.out; have := (hR2.kp hk3 (fun h => h)).lt; omega); have hwr : w.heap.size ≤ r := (by have := Hg_r.out; have := (K2.trans hk3).size; omega); have K4 := (K2.trans hk3).trans hk_r)
    | ((with_reducible refine gate_store (t := 119) (p := 8) rfl ?_); refine st_ev rfl rfl rfl r (rowC n0 nm 18 (m : Int)) _ _ rfl rfl hb_r infoRow rfl (rowC_one _ _ _ _) ?_; intro w5 hs5 ks5; have hB5 : Bk w5 r (rowC n0 nm 18 (m : Int)) 119 := ⟨hs5⟩; have r2 : w5.cell? ⟨r, 2, none⟩ = some (.int .i64 18) := hB5.c 2; have r3 : w5.cell? ⟨r, 3, none⟩ = some (.int .u64 (m : Int)) := hB5.c 3; have hI5 := hI4.kp ks5 hgr; have hR5 := hR4.kp ks5 hhr; have K5 : KpN w w5 := K4.then ks5 (fun i hi (e : i = r) => by omega)))
  refine (getr_c x 60 4 _ hx).mono ?_
  rintro e w6 ⟨rfl, hk6⟩
  have hI6 := hI5.kp hk6 (fun h => h)
  have hR6 := hR5.kp hk6 (fun h => h)
  have hB6 := hB5.kp hk6 (fun h => h)
  have r2 : w6.cell? ⟨r, 2, none⟩ = some (.int .i64 18) := hB6.c 2
  have r3 : w6.cell? ⟨r, 3, none⟩ = some (.int .u64 (m : Int)) := hB6.c 3
  have K6 := K5.trans hk6
  go_wp2_with (fail)
  have cJ := hI6.c 19
  have fJ := hI6.f 19
  go_region_with (go_at_call 45; refine (and_r x m _ hx hm1).mono ?_; rintro e wy ⟨rfl, hky⟩; have hBy := hB6.drew.kp hky (fun h => h); have r2y : wy.cell? ⟨r, 2, none⟩ = some (.int .i64 18) := hBy.c 2; have hIy := hI6.drew.kp hky (fun h => h); have cy := hIy.c 19; have fy := hIy.f 19)
  all_goals
    have hRy := hR6.drew.kp hky (fun h => h)
    have Ky := K6.drew.trans hky
    go_wp2_with (first | ((with_reducible refine gate_dst (N := 126) rfl ?_); refine wpList_load_row rfl 57 _ rfl g rfl _ ((s.set 19 (x &&& m)).cells) (0, 0) _ ((hIy.set 19 _).blk) Try.underlying57 rfl infoR ?_) | ((with_reducible refine gate_store (t := 57) (p := 6) rfl ?_); refine st_ev rfl rfl rfl h ((s.set 19 (x &&& m)).cells) _ _ rfl rfl ((hRy.far hgh _).blk) infoR rfl (VS.one _) ?_; intro wz hs_wz ks_wz))
    refine bodyPost_ret (results_cell_row rfl _ _ h 57 ((s.set 19 (x &&& m)).cells) (0, 0) _ rfl (hs_wz) Try.underlying57 rfl infoR) rfl ?_
    exact ⟨rfl, (Ky.setCell (p := ⟨g, 19, none⟩) (.inr hgw) _).then ks_wz fun i hi (e : i = h) => by omega⟩
set_option maxHeartbeats 8000000 in
set_option maxRecDepth 100000 in
theorem rwrite_G (s : VS) (n : Int) (x : Nat) (n0 : Int) (nm : ByteArray) (j : Nat) (hj : j ≤ 21) (j6 : j ≠ 6) (j12 : j ≠ 12) (j18 : j ≠ 18) (m : Nat) (hmz : m ≠ 0) (hmU : U m) (w : World) (hs : s.ok) (hx : U x) (hn : NotFive n) (hof : ofR n = (n0, nm, (j : Int), (m : Int), true)) :
    Calls Try.prog 43 #[.agg s.cells, .int .i64 n, .int .u64 (x : Int)] w fun e w' => e = .returned (.agg (s.set (1 + j) (x &&& m)).cells) ∧ KpN w w' := by
  have b1 := hn.b1
  have b2 := hn.b2
  have b3 := hn.b3
  have b4 := hn.b4
  have b5 := hn.b5
  have ofc : ∀ w, Calls Try.prog 71 #[.int .i64 n] w fun e w' => e = .returned (.tuple #[.agg (rowC n0 nm (j : Int) (m : Int)), .bool true]) ∧ KpN w w' := fun w => by
    have := of_c n w; rw [hof] at this; exact this
  have Ofc := Aside0.mk ofc
  clear ofc hof hn
  have hm0 : ((m : Int) == 0) = false := by rw [beq_eq_false_iff_ne]; omega
  have hm1 : U m := hmU
  clear hmz hmU
  have q0 : decide ((j : Int) < 0) = false := decide_eq_false (by omega)
  have q1 : ((j : Int) == 6) = false := by rw [beq_eq_false_iff_ne]; omega
  have q2 : ((j : Int) == 12) = false := by rw [beq_eq_false_iff_ne]; omega
  have q3 : ((j : Int) == 18) = false := by rw [beq_eq_false_iff_ne]; omega
  have p0 : (0 : Int) ≤ (j : Int) := by omega
  have p1 : (j : Int) < 22 := by omega
  clear j6 j12 j18
  go_enter Try.func43, Try.ntmps43
  go_wp2_with (first | ((with_reducible refine gate_dst (N := 3) rfl ?_); refine bx_ev rfl rfl (N := 3) rfl (s.cells) rfl ?_; intro g hg_g w1 hb_g hk_g; have Hg_g := Aside0.mk hg_g; clear hg_g) | ((with_reducible refine gate_dst (N := 6) rfl ?_); refine al_ev rfl rfl (N := 6) rfl _ (zeroR _) ?_; intro h hg_h w2 hb_h hk_h; have Hg_h := Aside0.mk hg_h; clear hg_h))
  have hgh : h ≠ g := by have := Hg_h.out; have := blk_lt hb_g; omega
  have hgw : w.heap.size ≤ g := by have := Hg_g.out; omega
  have hhw : w.heap.size ≤ h := by have := Hg_h.out; have := hk_g.size; omega
  have hI2 : St RT w2 g s := (St.mk hb_g).kp hk_h (fun h => h)
  have hR2 : St RT w2 h (VS.mk 0 fun _ => 0) := St.mk hb_h
  have K2 := hk_g.trans hk_h
  clear hb_g hb_h hk_g hk_h Hg_g Hg_h
  refine (Ofc.out _).mono ?_
  rintro e w3 ⟨rfl, hk3⟩
  go_wp2_with (first
    | (((with_reducible refine gate_dst (N := 8) rfl ?_); refine al_ev rfl rfl (N := 8) rfl _ (zeroRow _) ?_; intro r hg_r w4 hb_r hk_r; have Hg_r := Aside0.mk hg_r; clear hg_r); have hI4 : St RT w4 g s := (hI2.kp hk3 (fun h => h)).kp hk_r (fun h => h); have hR4 : St RT w4 h (VS.mk 0 fun _ => 0) := (hR2.kp hk3 (fun h => h)).kp hk_r (fun h => h); have hgr : g ≠ r := (by have := Hg_r.out; have := (hI2.kp hk3 (fun h => h)).lt; omega); have hhr : h ≠ r := (by have := Hg_r.out; have := (hR2.kp hk3 (fun h => h)).lt; omega); have hwr : w.heap.size ≤ r := (by have := Hg_r.out; have := (K2.trans hk3).size; omega); have K4 := (K2.trans hk3).trans hk_r)
    | ((with_reducible refine gate_store (t := 119) (p := 8) rfl ?_); refine st_ev rfl rfl rfl r (rowC n0 nm (j : Int) (m : Int)) _ _ rfl rfl hb_r infoRow rfl (rowC_one _ _ _ _) ?_; intro w5 hs5 ks5; have hB5 : Bk w5 r (rowC n0 nm (j : Int) (m : Int)) 119 := ⟨hs5⟩; have r2 : w5.cell? ⟨r, 2, none⟩ = some (.int .i64 (j : Int)) := hB5.c 2; have r3 : w5.cell? ⟨r, 3, none⟩ = some (.int .u64 (m : Int)) := hB5.c 3; have hI5 := hI4.kp ks5 hgr; have hR5 := hR4.kp ks5 hhr; have K5 : KpN w w5 := K4.then ks5 (fun i hi (e : i = r) => by omega)))
  refine (getr_c x 60 4 _ hx).mono ?_
  rintro e w6 ⟨rfl, hk6⟩
  have hI6 := hI5.kp hk6 (fun h => h)
  have hR6 := hR5.kp hk6 (fun h => h)
  have hB6 := hB5.kp hk6 (fun h => h)
  have r2 : w6.cell? ⟨r, 2, none⟩ = some (.int .i64 (j : Int)) := hB6.c 2
  have r3 : w6.cell? ⟨r, 3, none⟩ = some (.int .u64 (m : Int)) := hB6.c 3
  have K6 := K5.trans hk6
  go_wp2_with (fail)
  have cJ := hI6.c (1 + j) (by omega) (by omega)
  have fJ := hI6.f (1 + j)
  go_region_with (go_at_call 45; refine (and_r x m _ hx hm1).mono ?_; rintro e wy ⟨rfl, hky⟩; have hBy := hB6.drew.kp hky (fun h => h); have r2y : wy.cell? ⟨r, 2, none⟩ = some (.int .i64 (j : Int)) := hBy.c 2; have hIy := hI6.drew.kp hky (fun h => h); have cy := hIy.c (1 + j) (by omega) (by omega); have fy := hIy.f (1 + j))
  all_goals
    have hRy := hR6.drew.kp hky (fun h => h)
    have Ky := K6.drew.trans hky
    go_wp2_with (first | ((with_reducible refine gate_dst (N := 126) rfl ?_); refine wpList_load_row rfl 57 _ rfl g rfl _ ((s.set (1 + j) (x &&& m)).cells) (0, 0) _ ((hIy.set (1 + j) _ (by omega) (by omega)).blk) Try.underlying57 rfl infoR ?_) | ((with_reducible refine gate_store (t := 57) (p := 6) rfl ?_); refine st_ev rfl rfl rfl h ((s.set (1 + j) (x &&& m)).cells) _ _ rfl rfl ((hRy.far hgh _).blk) infoR rfl (VS.one _) ?_; intro wz hs_wz ks_wz))
    refine bodyPost_ret (results_cell_row rfl _ _ h 57 ((s.set (1 + j) (x &&& m)).cells) (0, 0) _ rfl (hs_wz) Try.underlying57 rfl infoR) rfl ?_
    exact ⟨rfl, (Ky.setCell (p := ⟨g, (1 + j), none⟩) (.inr hgw) _).then ks_wz fun i hi (e : i = h) => by omega⟩
end Go.Proofs.Ytlhdildnekllhaa.H
/- The document's answer for the registers (vireoref08), walked by hand: any write. -/
namespace Go.Proofs.Ytlhdildnekllhaa.H
open Go.RowKit Go.Proofs.YtlhdildnekllhaaW.PrintWords Go.Proofs.YtlhdildnekllhaaW.PrintLast Go.Proofs.Ytlhdildnekllhaa.PAl Go.Proofs.Ytlhdildnekllhaa.Pure Go.Proofs.Ytlhdildnekllhaa.Vw
set_option linter.unusedVariables false
set_option linter.unusedSimpArgs false
theorem rows_fine : ∀ y ∈ rowsL, y.f2 ≤ 21 ∧ 0 ≤ y.f3 ∧ y.f3 < 18446744073709551616 := by decide +kernel
theorem ofR_fine (n : Int) (h : (ofR n).2.2.2.2 = true) : (ofR n).2.2.1 ≤ 21 ∧ 0 ≤ (ofR n).2.2.2.1 ∧ (ofR n).2.2.2.1 < 18446744073709551616 := by
  unfold ofR findR at *
  cases hf : rowsL.find? (fun x => decide (x.f0 = n)) with
  | none => rw [hf] at h; simp at h
  | some y => exact rows_fine y (List.mem_of_find?_eq_some hf)
theorem rwrite_c (s : VS) (n : Int) (x : Nat) (w : World) (hs : s.ok) (hx : U x) :
    Calls Try.prog 43 #[.agg s.cells, .int .i64 n, .int .u64 (x : Int)] w fun e w' => e = .returned (.agg (rwriteW s n x).cells) ∧ KpN w w' := by
  by_cases h1 : n = 768
  · subst h1
    by_cases hg : getW x 11 2 = 2
    · have : rwriteW s 768 x = s.set 1 (mixW (s.r 1) x 8257962) := by unfold rwriteW; rw [if_pos rfl, if_pos hg]
      rw [this]; exact rwrite_c1a s x w hs hx hg
    · have : rwriteW s 768 x = s.set 1 (mixW (s.r 1) x 8264106) := by unfold rwriteW; rw [if_pos rfl, if_neg hg]
      rw [this]; exact rwrite_c1b s x w hs hx hg
  by_cases h2 : n = 256
  · subst h2; exact rwrite_c2 s x w hs hx
  by_cases h3 : n = 836
  · subst h3; exact rwrite_c3 s x w hs hx
  by_cases h4 : n = 324
  · subst h4; exact rwrite_c4 s x w hs hx
  by_cases h5 : n = 260
  · subst h5; exact rwrite_c5 s x w hs hx
  have hn : NotFive n := ⟨beq_no h1, beq_no h2, beq_no h3, beq_no h4, beq_no h5⟩
  obtain ⟨n0, nm, a, m, ok, hof⟩ : ∃ n0 nm a m ok, ofR n = (n0, nm, a, m, ok) := ⟨_, _, _, _, _, rfl⟩
  have hfine := ofR_fine n
  have hgo : rwriteW s n x = if ok = false ∨ a < 0 ∨ m = 0 then s else if (a = 6 ∨ a = 12) ∧ getW x 1 1 = 1 then s else if a = 18 ∧ getW x 60 4 ≠ 0 ∧ getW x 60 4 ≠ 8 then s else s.set (a.toNat + 1) (x &&& m.toNat) := by
    unfold rwriteW
    rw [if_neg h1, if_neg h2, if_neg h3, if_neg h4, if_neg h5, hof]
  rw [hof] at hfine
  dsimp only at hfine
  rw [hgo]
  clear hgo
  cases ok with
  | false => rw [if_pos (.inl rfl)]; exact rwrite_A s n x n0 nm a m w hs hx hn hof
  | true =>
    obtain ⟨ha2, hm0, hm1⟩ := hfine rfl
    by_cases ha : a < 0
    · rw [if_pos (.inr (.inl ha))]; exact rwrite_B s n x n0 nm a m ha w hs hx hn hof
    by_cases hm : m = 0
    · rw [if_pos (.inr (.inr hm))]; subst hm; exact rwrite_C s n x n0 nm a ha w hs hx hn hof
    rw [if_neg (by rintro (h | h | h); cases h; exact ha h; exact hm h)]
    obtain ⟨M, rfl⟩ : ∃ M : Nat, m = M := ⟨m.toNat, by omega⟩
    have hM : M ≠ 0 := by omega
    have hU : U M := ⟨by omega⟩
    rw [Int.toNat_natCast]
    by_cases c6 : a = 6
    · subst c6
      by_cases hg : getW x 1 1 = 1
      · rw [if_pos ⟨.inl rfl, hg⟩]; exact rwrite_D6 s n x n0 nm M hM hU hg w hs hx hn hof
      · rw [if_neg (fun h => hg h.2), if_neg (fun h => absurd h.1 (by decide))]; exact rwrite_F6 s n x n0 nm M hM hU hg w hs hx hn hof
    by_cases c12 : a = 12
    · subst c12
      by_cases hg : getW x 1 1 = 1
      · rw [if_pos ⟨.inr rfl, hg⟩]; exact rwrite_D12 s n x n0 nm M hM hU hg w hs hx hn hof
      · rw [if_neg (fun h => hg h.2), if_neg (fun h => absurd h.1 (by decide))]; exact rwrite_F12 s n x n0 nm M hM hU hg w hs hx hn hof
    rw [if_neg (fun h => by rcases h.1 with h | h; exact c6 h; exact c12 h)]
    by_cases c18 : a = 18
    · subst c18
      by_cases h0 : getW x 60 4 = 0
      · rw [if_neg (fun h => h.2.1 h0)]; exact rwrite_F18a s n x n0 nm M hM hU h0 w hs hx hn hof
      by_cases h8 : getW x 60 4 = 8
      · rw [if_neg (fun h => h.2.2 h8)]; exact rwrite_F18b s n x n0 nm M hM hU h8 w hs hx hn hof
      · rw [if_pos ⟨rfl, h0, h8⟩]; exact rwrite_E s n x n0 nm M hM hU h0 h8 w hs hx hn hof
    · rw [if_neg (fun h => c18 h.1)]
      obtain ⟨j, rfl⟩ : ∃ j : Nat, a = j := ⟨a.toNat, by omega⟩
      rw [Int.toNat_natCast, Nat.add_comm j 1]
      exact rwrite_G s n x n0 nm j (by omega) (by omega) (by omega) (by omega) M hM hU w hs hx hn hof
theorem rwriteW_ok {s : VS} (h : s.ok) (n : Int) {x : Nat} (hx : U x) : (rwriteW s n x).ok := by
  unfold rwriteW
  repeat' split
  all_goals first | exact h | exact VS.set_ok h _ (mixW_ok (h _) hx) | exact VS.set_ok h _ hx.and
end Go.Proofs.Ytlhdildnekllhaa.H
/- What the statements of the registers begin with (vireolaw08.Begun), walked by hand. -/
namespace Go.Proofs.Ytlhdildnekllhaa.H
open Go.RowKit Go.Proofs.YtlhdildnekllhaaW.PrintWords Go.Proofs.YtlhdildnekllhaaW.PrintLast Go.Proofs.Ytlhdildnekllhaa.PAl Go.Proofs.Ytlhdildnekllhaa.Pure Go.Proofs.Ytlhdildnekllhaa.Vw
set_option linter.unusedVariables false
set_option linter.unusedSimpArgs false
theorem getD_at {α : Type} (l : List α) (d : α) (k : Nat) (h : k < l.length) : l.getD k d = l[k] := by
  rw [List.getD_eq_getElem?_getD, List.getElem?_eq_getElem h]; rfl
abbrev WR := S92
/-- The file behind the first k writes; likewise the document's. -/
def foldF (xs : List WR) : Nat → VS
  | 0 => vs0
  | k + 1 => writeW (foldF xs k) (xs.getD k z92).f0 (xs.getD k z92).f1.toNat
def foldR (xs : List WR) : Nat → VS
  | 0 => vs0
  | k + 1 => rwriteW (foldR xs k) (xs.getD k z92).f0 (xs.getD k z92).f1.toNat
def wrOk (xs : List WR) : Prop := ∀ y ∈ xs, 0 ≤ y.f1 ∧ y.f1 < 18446744073709551616
theorem wrOk_at {xs : List WR} (h : wrOk xs) (k : Nat) : (xs.getD k z92).f1 = (((xs.getD k z92).f1.toNat : Nat) : Int) ∧ U (xs.getD k z92).f1.toNat := by
  by_cases hk : k < xs.length
  · rw [getD_at xs _ k hk]
    have := h _ (List.getElem_mem hk)
    exact ⟨by omega, ⟨by omega⟩⟩
  · rw [List.getD_eq_getElem?_getD, List.getElem?_eq_none (by omega)]
    exact ⟨rfl, ⟨by decide⟩⟩
theorem foldF_ok {xs : List WR} (h : wrOk xs) : ∀ k, (foldF xs k).ok
  | 0 => vs0_ok
  | k + 1 => writeW_ok (foldF_ok h k) _ (wrOk_at h k).2
theorem foldR_ok {xs : List WR} (h : wrOk xs) : ∀ k, (foldR xs k).ok
  | 0 => vs0_ok
  | k + 1 => rwriteW_ok (foldR_ok h k) _ (wrOk_at h k).2
abbrev startC (m : Int) (A : Option Addr) (n c : Nat) (l : Int) : Array Value := #[.int .i64 m, .slice A n c, .int .u64 l]
def bgF (m : Int) (xs : List WR) (l : Nat) : VS := ((foldF xs xs.length).set 6 (l &&& 2696)).mode m
def bgR (m : Int) (xs : List WR) (l : Nat) : VS := ((foldR xs xs.length).set 3 (l &&& 2696)).mode m
def bgOk (m : Int) (n : Nat) : Prop := 0 ≤ m ∧ m ≤ 3 ∧ m ≠ 2 ∧ n ≤ 40
structure Lts (w : World) (g r q f p : Nat) : Prop where
  a : w.heap.size ≤ g
  b : g < r
  c : r < q
  d : q < f
  e : f < p
theorem begun_at {w w1 w2 w3 w4 w5 w6 w7 w8 : World} {g r q f p : Nat} {cs : Array Value} {T : TypeId} {z : VS} (e1 : g = w.heap.size) (e2 : r = w1.heap.size) (e3 : q = w2.heap.size) (e4 : f = w4.heap.size) (e5 : p = w6.heap.size)
    (b1 : w1.heap[g]? = some (.cells cs T (0, 0))) (b2 : w2.heap[r]? = some (.cells z.cells FT (0, 0))) (b3 : w3.heap[q]? = some (.cells z.cells RT (0, 0))) (b6 : w6.heap[f]? = some (.cells vs0.cells FT (0, 0))) (b8 : w8.heap[p]? = some (.cells vs0.cells RT (0, 0)))
    (k1 : Kp w w1 (fun _ => False)) (k2 : Kp w1 w2 (fun _ => False)) (k3 : Kp w2 w3 (fun _ => False)) (k4 : Kp w3 w4 (fun _ => False)) (k5 : Kp w4 w5 (fun _ => False)) (k6 : Kp w5 w6 (fun i => i = f)) (k7 : Kp w6 w7 (fun _ => False)) (k8 : Kp w7 w8 (fun i => i = p)) :
    Bk w8 g cs T ∧ St FT w8 f vs0 ∧ St RT w8 p vs0 ∧ St FT w8 r z ∧ St RT w8 q z ∧ Lts w g r q f p ∧ KpN w w8 := by
  have l1 := blk_lt b1
  have l2 := blk_lt b2
  have l3 := blk_lt b3
  have l6 := blk_lt b6
  have s4 := k4.size
  have s5 := k5.size
  have s6 := k6.size
  have s1 := k1.size
  have s2 := k2.size
  have s3 := k3.size
  have k38 : KpN w3 w8 := by
    have k36 : KpN w3 w6 := (k4.trans k5).then k6 fun i hi (e : i = f) => by omega
    exact (k36.trans k7).then k8 fun i hi (e : i = p) => by omega
  have k68 : KpN w6 w8 := k7.then k8 fun i hi (e : i = p) => by omega
  refine ⟨(Bk.mk b1).kp ((k2.trans k3).trans k38) (fun h => h), (St.mk b6).kp k68 (fun h => h), ⟨b8⟩, (St.mk b2).kp (k3.trans k38) (fun h => h), (St.mk b3).kp k38 (fun h => h), ⟨by omega, by omega, by omega, by omega, by omega⟩, ((k1.trans k2).trans k3).trans k38⟩
def vz : VS := VS.mk 0 fun _ => 0
set_option maxHeartbeats 8000000 in
set_option maxRecDepth 100000 in
theorem begun_no (m : Int) (A : Option Addr) (c : Nat) (l : Int) (xs : List WR) (w : World) (hb : ¬ bgOk m xs.length) :
    Calls Try.prog 20 #[.agg (startC m A xs.length c l)] w fun e w' => e = .returned (.tuple #[.agg vs0.cells, .agg vs0.cells, .bool false]) ∧ KpN w w' := by
  have hcase : (decide (m < 0) = true) ∨ (decide (m < 0) = false ∧ decide (3 < m) = true) ∨ (decide (m < 0) = false ∧ decide (3 < m) = false ∧ (m == 2) = true) ∨ (decide (m < 0) = false ∧ decide (3 < m) = false ∧ (m == 2) = false ∧ decide (40 < xs.length) = true ∧ decide (40 < (xs.length : Int)) = true) := by
    by_cases h1 : m < 0
    · exact .inl (decide_eq_true h1)
    by_cases h2 : 3 < m
    · exact .inr (.inl ⟨decide_eq_false h1, decide_eq_true h2⟩)
    by_cases h3 : m = 2
    · exact .inr (.inr (.inl ⟨decide_eq_false h1, decide_eq_false h2, beq_iff_eq.2 h3⟩))
    · have : ¬ xs.length ≤ 40 := fun h => hb ⟨by omega, by omega, h3, h⟩
      exact .inr (.inr (.inr ⟨decide_eq_false h1, decide_eq_false h2, beq_eq_false_iff_ne.2 h3, decide_eq_true (by omega), decide_eq_true (by omega)⟩))
  clear hb
  rcases hcase with t1 | ⟨t1, t2⟩ | ⟨t1, t2, t3⟩ | ⟨t1, t2, t3, t4, t5⟩
  all_goals
    go_enter Try.func20, Try.ntmps20
    go_wp2_with (first
      | ((with_reducible refine gate_dst (N := 1) rfl ?_); refine bx_ev rfl rfl (N := 1) rfl (startC m A xs.length c l) rfl ?_; intro g hg_g w1 hb_g hk_g; have Hg_g := Aside0.mk hg_g; clear hg_g)
      | ((with_reducible refine gate_dst (N := 2) rfl ?_); refine al_ev rfl rfl (N := 2) rfl _ (zeroF _) ?_; intro r hg_r w2 hb_r hk_r; have Hg_r := Aside0.mk hg_r; clear hg_r)
      | ((with_reducible refine gate_dst (N := 3) rfl ?_); refine al_ev rfl rfl (N := 3) rfl _ (zeroR _) ?_; intro q hg_q w3 hb_q hk_q; have Hg_q := Aside0.mk hg_q; clear hg_q)
      | (go_at_call 41; refine (begin_c _).mono ?_; rintro e w4 ⟨rfl, hk4⟩)
      | ((with_reducible refine gate_dst (N := 5) rfl ?_); refine al_ev rfl rfl (N := 5) rfl _ (zeroF _) ?_; intro f hg_f w5 hb_f hk_f; have Hg_f := Aside0.mk hg_f; clear hg_f)
      | ((with_reducible refine gate_store (t := 54) (p := 5) rfl ?_); refine st_ev rfl rfl rfl f (vs0.cells) _ _ rfl rfl (hb_f) infoF rfl (VS.one _) ?_; intro w6 hs_w6 ks_w6)
      | ((with_reducible refine gate_dst (N := 6) rfl ?_); refine al_ev rfl rfl (N := 6) rfl _ (zeroR _) ?_; intro p hg_p w7 hb_p hk_p; have Hg_p := Aside0.mk hg_p; clear hg_p)
      | (((with_reducible refine gate_store (t := 57) (p := 6) rfl ?_); refine st_ev rfl rfl rfl p (vs0.cells) _ _ rfl rfl (hb_p) infoR rfl (VS.one _) ?_; intro w8 hs_w8 ks_w8); obtain ⟨hG, hF, hP, hR, hQ, hlt, K8⟩ := begun_at (Hg_g.out) (Hg_r.out) (Hg_q.out) (Hg_f.out) (Hg_p.out) hb_g hb_r hb_q hs_w6 hs_w8 hk_g hk_r hk_q hk4 hk_f ks_w6 hk_p ks_w8; clear hb_g hb_r hb_q hs_w6 hs_w8 hk_g hk_r hk_q hk4 hk_f ks_w6 hk_p ks_w8 hb_f hb_p Hg_g Hg_r Hg_q Hg_f Hg_p; have c0 := hG.c 0; have c1 := hG.c 1; have c2 := hG.c 2; rw [show (startC m A xs.length c l)[0]? = some (.int .i64 m) from rfl] at c0; rw [show (startC m A xs.length c l)[1]? = some (.slice A xs.length c) from rfl] at c1; rw [show (startC m A xs.length c l)[2]? = some (.int .u64 l) from rfl] at c2))
    refine two_out (by kernel_rfl) rfl rfl rfl rfl rfl (by kernel_rfl) (by kernel_rfl) (by kernel_rfl) (by kernel_rfl) (by kernel_rfl) (by kernel_rfl) (by kernel_rfl) (by kernel_rfl) rfl rfl rfl rfl rfl rfl rfl Try.underlying54 Try.underlying57 rfl rfl f p r q vs0.cells vs0.cells (VS.mk 0 fun _ => 0).cells (VS.mk 0 fun _ => 0).cells infoF infoR rfl rfl (VS.one _) (VS.one _) hF.blk hP.blk hR.blk hQ.blk (by have := hlt.b; have := hlt.c; have := hlt.d; have := hlt.e; omega) (by have := hlt.c; omega) rfl rfl rfl rfl rfl rfl rfl rfl rfl rfl rfl ?_
    intro w9 h9 h9b k9
    go_wp2
    refine bodyPost_ret (results_cct rfl _ _ r q vs0.cells vs0.cells (.bool false) _ _ rfl rfl rfl h9 h9b Try.underlying54 Try.underlying57 rfl rfl infoF infoR) rfl ?_
    exact ⟨rfl, K8.then k9 fun i hi (e : i = r ∨ i = q) => by have := hlt.a; have := hlt.b; have := hlt.c; omega⟩
end Go.Proofs.Ytlhdildnekllhaa.H
/- What the statements of the registers begin with (vireolaw08.Begun), walked by hand: where it is tried. -/
namespace Go.Proofs.Ytlhdildnekllhaa.H
open Go.RowKit Go.Proofs.YtlhdildnekllhaaW.PrintWords Go.Proofs.YtlhdildnekllhaaW.PrintLast Go.Proofs.Ytlhdildnekllhaa.PAl Go.Proofs.Ytlhdildnekllhaa.Pure Go.Proofs.Ytlhdildnekllhaa.Vw
set_option linter.unusedVariables false
set_option linter.unusedSimpArgs false
/-- What a round of the writes keeps. -/
structure BInv (w W : World) (g r q f p : Nat) (m : Int) (A : Option Addr) (c : Nat) (l : Int) (xs : List WR) (k : Nat) : Prop where
  G : Bk W g (startC m A xs.length c l) 52
  F : St FT W f (foldF xs k)
  P : St RT W p (foldR xs k)
  R : St FT W r (VS.mk 0 fun _ => 0)
  Q : St RT W q (VS.mk 0 fun _ => 0)
  K : KpN w W
set_option maxHeartbeats 8000000 in
set_option maxRecDepth 100000 in
theorem begun_yes (m : Int) (A : Option Addr) (c : Nat) (l : Nat) (xs : List WR) (w : World) (hb : bgOk m xs.length) (hC : Kd.C k92 w A xs.length xs) (hx : wrOk xs) (hl : U l) :
    Calls Try.prog 20 #[.agg (startC m A xs.length c (l : Int))] w fun e w' => e = .returned (.tuple #[.agg (bgF m xs l).cells, .agg (bgR m xs l).cells, .bool true]) ∧ KpN w w' := by
  obtain ⟨m0, m3, m2, hn⟩ := hb
  have t1 : decide (m < 0) = false := decide_eq_false (by omega)
  have t2 : decide (3 < m) = false := decide_eq_false (by omega)
  have t3 : (m == 2) = false := beq_eq_false_iff_ne.2 m2
  have t4 : decide (40 < xs.length) = false := decide_eq_false (by omega)
  have t5 : decide (40 < (xs.length : Int)) = false := decide_eq_false (by omega)
  have Hm := Aside0.mk m2
  clear m2
  go_enter Try.func20, Try.ntmps20
  go_wp2_with (first
    | ((with_reducible refine gate_dst (N := 1) rfl ?_); refine bx_ev rfl rfl (N := 1) rfl (startC m A xs.length c (l : Int)) rfl ?_; intro g hg_g w1 hb_g hk_g; have Hg_g := Aside0.mk hg_g; clear hg_g)
    | ((with_reducible refine gate_dst (N := 2) rfl ?_); refine al_ev rfl rfl (N := 2) rfl _ (zeroF _) ?_; intro r hg_r w2 hb_r hk_r; have Hg_r := Aside0.mk hg_r; clear hg_r)
    | ((with_reducible refine gate_dst (N := 3) rfl ?_); refine al_ev rfl rfl (N := 3) rfl _ (zeroR _) ?_; intro q hg_q w3 hb_q hk_q; have Hg_q := Aside0.mk hg_q; clear hg_q)
    | (go_at_call 41; refine (begin_c _).mono ?_; rintro e w4 ⟨rfl, hk4⟩)
    | ((with_reducible refine gate_dst (N := 5) rfl ?_); refine al_ev rfl rfl (N := 5) rfl _ (zeroF _) ?_; intro f hg_f w5 hb_f hk_f; have Hg_f := Aside0.mk hg_f; clear hg_f)
    | ((with_reducible refine gate_store (t := 54) (p := 5) rfl ?_); refine st_ev rfl rfl rfl f (vs0.cells) _ _ rfl rfl (hb_f) infoF rfl (VS.one _) ?_; intro w6 hs_w6 ks_w6)
    | ((with_reducible refine gate_dst (N := 6) rfl ?_); refine al_ev rfl rfl (N := 6) rfl _ (zeroR _) ?_; intro p hg_p w7 hb_p hk_p; have Hg_p := Aside0.mk hg_p; clear hg_p)
    | (((with_reducible refine gate_store (t := 57) (p := 6) rfl ?_); refine st_ev rfl rfl rfl p (vs0.cells) _ _ rfl rfl (hb_p) infoR rfl (VS.one _) ?_; intro w8 hs_w8 ks_w8); obtain ⟨hG, hF, hP, hR, hQ, hlt, K8⟩ := begun_at (Hg_g.out) (Hg_r.out) (Hg_q.out) (Hg_f.out) (Hg_p.out) hb_g hb_r hb_q hs_w6 hs_w8 hk_g hk_r hk_q hk4 hk_f ks_w6 hk_p ks_w8; clear hb_g hb_r hb_q hs_w6 hs_w8 hk_g hk_r hk_q hk4 hk_f ks_w6 hk_p ks_w8 hb_f hb_p Hg_g Hg_r Hg_q Hg_f Hg_p; have c0 := hG.c 0; have c1 := hG.c 1; have c2 := hG.c 2; rw [show (startC m A xs.length c (l : Int))[0]? = some (.int .i64 m) from rfl] at c0; rw [show (startC m A xs.length c (l : Int))[1]? = some (.slice A xs.length c) from rfl] at c1; rw [show (startC m A xs.length c (l : Int))[2]? = some (.int .u64 (l : Int)) from rfl] at c2))
  go_loopw [7] (fun i W => ∃ k : Nat, k ≤ xs.length ∧ i = .int .i64 k ∧ BInv w W g r q f p m A c (l : Int) xs k) (fun i _ => xs.length - (intOf i).toNat)
  case atStart => exact ⟨0, Nat.zero_le _, rfl, ⟨hG, hF, hP, hR, hQ, K8⟩⟩
  case round =>
    obtain ⟨k, hk, rfl, inv⟩ := hrel
    have c1 := inv.G.c 1
    rw [show (startC m A xs.length c (l : Int))[1]? = some (.slice A xs.length c) from rfl] at c1
    by_cases hkn : k < xs.length
    · have hCr : Kd.C k92 wr A xs.length xs := Kd.C_below hC (inv.K.below (fun _ _ h => h.elim) (Nat.le_refl _))
      obtain ⟨ad, hA, e0, e1⟩ := at_T92 hCr (k : Int) (by omega) (by omega)
      have er : rd_T92 xs (k : Int) = xs.getD k z92 := by unfold rd_T92; rw [Int.toNat_natCast]
      obtain ⟨hv, hU⟩ := wrOk_at hx k
      subst hA
      have HE : Aside0 (∀ W : World, Kd.C k92 W (some ad) xs.length xs → W.cell? (ad.add (k * 2)) = some (.int .i64 (xs.getD k z92).f0) ∧ W.cell? ⟨(ad.add (k * 2)).block, (ad.add (k * 2)).off + 1, none⟩ = some (.int .u64 ((xs.getD k z92).f1.toNat : Int))) := ⟨fun W hW => by
        obtain ⟨ad2, hA2, q0, q1⟩ := at_T92 hW (k : Int) (by omega) (by omega)
        obtain rfl : ad = ad2 := Option.some.inj hA2
        rw [er, Int.toNat_natCast] at q0 q1
        rw [hv] at q1
        exact ⟨q0, q1⟩⟩
      clear e0 e1
      obtain ⟨e0, e1⟩ := HE.out wr hCr
      have hS : foldF xs (k + 1) = writeW (foldF xs k) (xs.getD k z92).f0 (xs.getD k z92).f1.toNat := rfl
      have hT : foldR xs (k + 1) = rwriteW (foldR xs k) (xs.getD k z92).f0 (xs.getD k z92).f1.toNat := rfl
      have HS := Aside0.mk hS
      have HT := Aside0.mk hT
      clear hS hT hv er
      generalize (xs.getD k z92).f0 = n0 at e0 HS HT HE
      generalize (xs.getD k z92).f1.toNat = v at e1 HS HT hU HE
      have i0 : (0 : Int) ≤ (k : Int) := by omega
      have i1 : (k : Int) < (xs.length : Int) := by omega
      have i2 : decide ((k : Int) < (xs.length : Int)) = true := decide_eq_true i1
      have i3 : decide (k < xs.length) = true := decide_eq_true hkn
      have HF := foldF_ok hx k
      have HR := foldR_ok hx k
      go_wp2
      go_still_tail 12, (by kernel_rfl)
      change wpList _ _ _ _ _ wr.drew
      go_wp2_with (go_at_call 42; refine (write_c f _ n0 v _ inv.F.drew HF hU).mono ?_; rintro e wa ⟨rfl, hSa, hKa⟩)
      have ka : Kp wr wa (fun i => i = f) := ((Kp.refl wr (fun i => i = f)).drew).trans hKa
      have hgf : g ≠ f := by have := hlt.b; have := hlt.c; have := hlt.d; omega
      have hpf : p ≠ f := by have := hlt.e; omega
      have hrf : r ≠ f := by have := hlt.c; have := hlt.d; omega
      have hqf : q ≠ f := by have := hlt.d; omega
      have hwf : w.heap.size ≤ f := by have := hlt.a; have := hlt.b; have := hlt.c; have := hlt.d; omega
      have Ga := inv.G.kp ka hgf
      have Pa := inv.P.kp ka hpf
      have Ra := inv.R.kp ka hrf
      have Qa := inv.Q.kp ka hqf
      have Ka : KpN w wa := inv.K.then ka fun i hi (e : i = f) => by omega
      clear hCr
      have hCa : Kd.C k92 wa (some ad) xs.length xs := Kd.C_below hC (Ka.below (fun _ _ h => h.elim) (Nat.le_refl _))
      have c1a := Ga.c 1
      rw [show (startC m (some ad) xs.length c (l : Int))[1]? = some (.slice (some ad) xs.length c) from rfl] at c1a
      obtain ⟨e0a, e1a⟩ := HE.out wa hCa
      clear e0 e1 c1 hKa
      go_wp2
      refine wp_region_still_tail 13 (by kernel_rfl) (by kernel_rfl) ?_
      simp only [List.take_succ_cons, List.take_zero, List.drop_succ_cons, List.drop_zero]
      refine wpStill_ld rfl rfl p rfl _ (foldR xs k).cells _ Pa.blk Try.underlying57 rfl infoR ?_
      repeat still_step
      try refine wpStill_nil ?_
      change wpList _ _ _ _ _ wa.drew
      go_wp2_with (first
        | (go_at_call 43; refine (rwrite_c (foldR xs k) n0 v _ HR hU).mono ?_; rintro e wb ⟨rfl, kb0⟩; have kb : KpN wa wb := ((Kp.refl wa (fun _ => False)).drew).trans kb0)
        | ((with_reducible refine gate_store (t := 57) (p := 6) rfl ?_); refine st_ev rfl rfl rfl p ((rwriteW (foldR xs k) n0 v).cells) _ _ rfl rfl ((Pa.kp kb (fun h => h)).blk) infoR rfl (VS.one _) ?_; intro wc hs_wc ks_wc))
      have kac : Kp wa wc (fun i => i = p) := (kb.mono (fun _ _ h => h.elim)).trans ks_wc
      have hgp : g ≠ p := by have := hlt.b; have := hlt.c; have := hlt.d; have := hlt.e; omega
      have hrp : r ≠ p := by have := hlt.c; have := hlt.d; have := hlt.e; omega
      have hqp : q ≠ p := by have := hlt.d; have := hlt.e; omega
      have hwp : w.heap.size ≤ p := by have := hlt.e; omega
      have REL : BInv w wc g r q f p m (some ad) c (l : Int) xs (k + 1) := ⟨Ga.kp kac hgp, by rw [HS.out]; exact hSa.kp kac (fun e : f = p => hpf e.symm), by rw [HT.out]; exact ⟨hs_wc⟩, Ra.kp kac hrp, Qa.kp kac hqp, Ka.then kac fun i hi (e : i = p) => by omega⟩
      go_roundw
      case rel => exact ⟨k + 1, by omega, by go_num, REL⟩
      case measure => simp [intOf]; omega
    · have hke : k = xs.length := by omega
      have i2 : decide ((k : Int) < (xs.length : Int)) = false := decide_eq_false (by omega)
      have i3 : decide (k < xs.length) = false := decide_eq_false hkn
      have HF := foldF_ok hx k
      have HR := foldR_ok hx k
      have HBF : Aside0 (bgF m xs l = ((foldF xs k).set 6 (l &&& 2696)).mode m) := ⟨by rw [hke]; rfl⟩
      have HBR : Aside0 (bgR m xs l = ((foldR xs k).set 3 (l &&& 2696)).mode m) := ⟨by rw [hke]; rfl⟩
      have c2r := inv.G.c 2
      have c0r := inv.G.c 0
      rw [show (startC m A xs.length c (l : Int))[2]? = some (.int .u64 (l : Int)) from rfl] at c2r
      rw [show (startC m A xs.length c (l : Int))[0]? = some (.int .i64 m) from rfl] at c0r
      have hgf : g ≠ f := by have := hlt.b; have := hlt.c; have := hlt.d; omega
      have hpf : p ≠ f := by have := hlt.e; omega
      have hrf : r ≠ f := by have := hlt.c; have := hlt.d; omega
      have hqf : q ≠ f := by have := hlt.d; omega
      have hwf : w.heap.size ≤ f := by have := hlt.a; have := hlt.b; have := hlt.c; have := hlt.d; omega
      have hgp : g ≠ p := by have := hlt.b; have := hlt.c; have := hlt.d; have := hlt.e; omega
      have hrp : r ≠ p := by have := hlt.c; have := hlt.d; have := hlt.e; omega
      have hqp : q ≠ p := by have := hlt.d; have := hlt.e; omega
      have hwp : w.heap.size ≤ p := by have := hlt.e; omega
      clear hke hC
      go_wp2_with (fail)
      refine (hold_c f (foldF xs k) l _ inv.F hl).mono ?_
      rintro e wa ⟨rfl, hSa, ka⟩
      have Ga := inv.G.kp ka hgf
      have c0a := Ga.c 0
      have c2a := Ga.c 2
      rw [show (startC m A xs.length c (l : Int))[2]? = some (.int .u64 (l : Int)) from rfl] at c2a
      rw [show (startC m A xs.length c (l : Int))[0]? = some (.int .i64 m) from rfl] at c0a
      go_wp2_with (fail)
      have Pa := inv.P.kp ka hpf
      have Ra := inv.R.kp ka hrf
      have Qa := inv.Q.kp ka hqf
      have Ka : KpN w wa := inv.K.then ka fun i hi (e : i = f) => by omega
      refine (and_rl l 2696 _ hl (by decide)).mono ?_
      rintro e wb ⟨rfl, kb⟩
      have Gb := Ga.kp kb (fun h => h)
      have c0b := Gb.c 0
      rw [show (startC m A xs.length c (l : Int))[0]? = some (.int .i64 m) from rfl] at c0b
      have Fb := hSa.kp kb (fun h => h)
      have Pb := Pa.kp kb (fun h => h)
      have c3 := Pb.c 3
      have f3 := Pb.f 3
      have fF := Fb.f 0
      have cF := Fb.c0
      have fP := Pb.f 0
      have cP := Pb.c0
      have hfp : f ≠ p := fun e => hpf e.symm
      have hfg : f ≠ g := fun e => hgf e.symm
      have hpg : p ≠ g := fun e => hgp e.symm
      go_wp2
      repeat (go_region; try go_wp2)
      have Rb := Ra.kp kb (fun h => h)
      have Qb := Qa.kp kb (fun h => h)
      have Kb := Ka.trans kb
      have hrq : r ≠ q := by have := hlt.c; omega
      all_goals
        refine two_out (by kernel_rfl) rfl rfl rfl rfl rfl (by kernel_rfl) (by kernel_rfl) (by kernel_rfl) (by kernel_rfl) (by kernel_rfl) (by kernel_rfl) (by kernel_rfl) (by kernel_rfl) rfl rfl rfl rfl rfl rfl rfl Try.underlying54 Try.underlying57 rfl rfl f p r q (((foldF xs k).set 6 (l &&& 2696)).mode m).cells (((foldR xs k).set 3 (l &&& 2696)).mode m).cells (VS.mk 0 fun _ => 0).cells (VS.mk 0 fun _ => 0).cells infoF infoR rfl rfl (VS.one _) (VS.one _)
          (St.blk (T := FT) (s := ((foldF xs k).set 6 (l &&& 2696)).mode m) (by repeat (first | with_reducible exact Fb | apply St.drew | refine St.far ?_ hfp _ | refine St.set0 ?_ _)))
          (St.blk (T := RT) (s := ((foldR xs k).set 3 (l &&& 2696)).mode m) (by repeat (first | with_reducible exact Pb | apply St.drew | refine St.far ?_ hpf _ | refine St.set0 ?_ _ | refine St.set ?_ _ _)))
          (St.blk (T := FT) (s := VS.mk 0 fun _ => 0) (by repeat (first | with_reducible exact Rb | apply St.drew | refine St.far ?_ hrp _ | refine St.far ?_ hrf _)))
          (St.blk (T := RT) (s := VS.mk 0 fun _ => 0) (by repeat (first | with_reducible exact Qb | apply St.drew | refine St.far ?_ hqp _ | refine St.far ?_ hqf _)))
          (fun e : p = r => hrp e.symm) (fun e : q = r => hrq e.symm) rfl rfl rfl rfl rfl rfl rfl rfl rfl rfl rfl ?_
        intro wz h9 h9b k9
        go_wp2
        refine bodyPost_ret (results_cct rfl _ _ r q (((foldF xs k).set 6 (l &&& 2696)).mode m).cells (((foldR xs k).set 3 (l &&& 2696)).mode m).cells (.bool true) _ _ rfl rfl rfl h9 h9b Try.underlying54 Try.underlying57 rfl rfl infoF infoR) rfl ?_
        rw [HBF.out, HBR.out]
        exact ⟨rfl, Kp.then (by repeat (first | with_reducible exact Kb | apply Kp.drew | refine Kp.setCell ?_ (.inr hwp) _ | refine Kp.setCell ?_ (.inr hwf) _)) k9 fun i hi (e : i = r ∨ i = q) => by have := hlt.a; have := hlt.b; have := hlt.c; omega⟩
end Go.Proofs.Ytlhdildnekllhaa.H
/- '==' of arrays of words, as one Bool. -/
namespace Go.Proofs.Ytlhdildnekllhaa.H
open Go.RowKit Go.Proofs.YtlhdildnekllhaaW.PrintWords Go.Proofs.YtlhdildnekllhaaW.PrintLast Go.Proofs.Ytlhdildnekllhaa.PAl Go.Proofs.Ytlhdildnekllhaa.Pure Go.Proofs.Ytlhdildnekllhaa.Vw
set_option linter.unusedVariables false
set_option linter.unusedSimpArgs false
theorem run_forIn_list {P : Program} (w : World) (body : Nat → Option Bool × Unit → Sem (ForInStep (Option Bool × Unit))) (ok : Nat → Bool) :
    ∀ (L : List Nat), (∀ i ∈ L, (body i (none, ())).run P w = .ok (if ok i = true then .yield (none, ()) else .done (some false, ())) w) → (forIn L ((none, ()) : Option Bool × Unit) body).run P w = .ok (if L.all ok = true then (none, ()) else (some false, ())) w
  | [], _ => by simp
  | i :: L, h => by
    rw [List.forIn_cons, Sem.run_bind, h i (by simp), Result.andThen_ok]
    cases hb : ok i with
    | true =>
      have ih := run_forIn_list w body ok L (fun j hj => h j (by simp [hj]))
      simp only [if_true, List.all_cons, hb, Bool.true_and]
      exact ih
    | false => simp [hb]
theorem eqArr {P : Program} {T e : TypeId} {n : Nat} (w : World) (d : Nat) (hu : P.underlying T = some (.array n e)) (he : P.underlying e = some (.int .u64)) (hs : (P.info? e).map (·.size) = some 1) (xs ys : Array Value) (f g : Nat → Int)
    (hx : ∀ i, i < n → xs[i]? = some (.int .u64 (f i))) (hy : ∀ i, i < n → ys[i]? = some (.int .u64 (g i))) :
    (Op.equalIn (d + 2) T (.agg xs) (.agg ys)).run P w = .ok ((List.range n).all fun i => f i == g i) w := by
  rw [Op.equalIn]
  have hso : (sizeOf e).run P w = .ok 1 w := by
    cases hq : P.info? e with
    | none => simp [hq] at hs
    | some i => simp [hq] at hs; simp [sizeOf, typeInfo, hq, hs]
  have hag : (isAgg e).run P w = .ok false w := by
    unfold isAgg; rw [Sem.run_bind, run_underlying he w]; rfl
  simp only [Sem.run_bind, run_underlying hu w, Result.andThen_ok, hso]
  rw [Std.Legacy.Range.forIn_eq_forIn_range']
  rw [run_forIn_list w _ (fun i => f i == g i)]
  · rw [Result.andThen_ok]
    have hL : List.range' 0 n 1 = List.range n := by rw [List.range_eq_range']
    simp only [Std.Legacy.Range.size, Nat.sub_zero, Nat.add_sub_cancel, Nat.div_one] 
    rw [hL]
    cases (List.range n).all fun i => f i == g i <;> rfl
  · intro i hi
    have hin : i < n := by simpa using hi
    have p1 : (part e xs (i * 1)).run P w = .ok (.int .u64 (f i)) w := by
      unfold part; rw [Sem.run_bind, hag, Result.andThen_ok, Nat.mul_one, hx i hin]; rfl
    have p2 : (part e ys (i * 1)).run P w = .ok (.int .u64 (g i)) w := by
      unfold part; rw [Sem.run_bind, hag, Result.andThen_ok, Nat.mul_one, hy i hin]; rfl
    have p3 : (Op.equalIn (d + 1) e (.int .u64 (f i)) (.int .u64 (g i))).run P w = .ok (f i == g i) w := by
      rw [Op.equalIn, Sem.run_bind, run_underlying he w, Result.andThen_ok]; rfl
    simp only [Sem.run_bind, p1, p2, p3, Result.andThen_ok]
    cases f i == g i <;> rfl
end Go.Proofs.Ytlhdildnekllhaa.H
/- Is a file as the document's (vireolaw08.Same)? Walked by hand. -/
namespace Go.Proofs.Ytlhdildnekllhaa.H
open Go.RowKit Go.Proofs.YtlhdildnekllhaaW.PrintWords Go.Proofs.YtlhdildnekllhaaW.PrintLast Go.Proofs.Ytlhdildnekllhaa.PAl Go.Proofs.Ytlhdildnekllhaa.Pure Go.Proofs.Ytlhdildnekllhaa.Vw
set_option linter.unusedVariables false
set_option linter.unusedSimpArgs false
theorem wpList_in {P : Program} {ops : Array Oper} {Q : Exit → Act → World → Prop} {a : Act} {w : World} {rest : List Oper} {o : Oper} (hw : Region.wanted o (yielded ops a.tmps) = true) (h : o.wp P a w (wpList P ops Q rest) Q) : wpList P ops Q (o :: rest) a w := by
  unfold wpList; rw [if_pos hw]; exact .inl h
/-- Where the document's k-th place is in a file. -/
def perm (i : Nat) : Nat := if i = 0 then 1 else if i = 1 then 5 else if i = 2 then 6 else if i = 3 then 2 else if i = 4 then 3 else if i = 5 then 4 else i + 1
def permC (s : VS) : Array Value := #[.int .u64 (s.r 1 : Int), .int .u64 (s.r 5 : Int), .int .u64 (s.r 6 : Int), .int .u64 (s.r 2 : Int), .int .u64 (s.r 3 : Int), .int .u64 (s.r 4 : Int), .int .u64 (s.r 7 : Int), .int .u64 (s.r 8 : Int), .int .u64 (s.r 9 : Int), .int .u64 (s.r 10 : Int), .int .u64 (s.r 11 : Int), .int .u64 (s.r 12 : Int), .int .u64 (s.r 13 : Int), .int .u64 (s.r 14 : Int), .int .u64 (s.r 15 : Int), .int .u64 (s.r 16 : Int), .int .u64 (s.r 17 : Int), .int .u64 (s.r 18 : Int), .int .u64 (s.r 19 : Int), .int .u64 (s.r 20 : Int), .int .u64 (s.r 21 : Int), .int .u64 (s.r 22 : Int)]
def kC (s : VS) : Array Value := #[.int .u64 (s.r 1 : Int), .int .u64 (s.r 2 : Int), .int .u64 (s.r 3 : Int), .int .u64 (s.r 4 : Int), .int .u64 (s.r 5 : Int), .int .u64 (s.r 6 : Int), .int .u64 (s.r 7 : Int), .int .u64 (s.r 8 : Int), .int .u64 (s.r 9 : Int), .int .u64 (s.r 10 : Int), .int .u64 (s.r 11 : Int), .int .u64 (s.r 12 : Int), .int .u64 (s.r 13 : Int), .int .u64 (s.r 14 : Int), .int .u64 (s.r 15 : Int), .int .u64 (s.r 16 : Int), .int .u64 (s.r 17 : Int), .int .u64 (s.r 18 : Int), .int .u64 (s.r 19 : Int), .int .u64 (s.r 20 : Int), .int .u64 (s.r 21 : Int), .int .u64 (s.r 22 : Int)]
theorem permC_at (s : VS) (i : Nat) (h : i < 22) : (permC s)[i]? = some (.int .u64 (s.r (perm i) : Int)) := by
  rcases i with _ | _ | _ | _ | _ | _ | _ | _ | _ | _ | _ | _ | _ | _ | _ | _ | _ | _ | _ | _ | _ | _ | i
  all_goals first | rfl | omega
theorem kC_at (s : VS) (i : Nat) (h : i < 22) : (kC s)[i]? = some (.int .u64 (s.r (i + 1) : Int)) := by
  rcases i with _ | _ | _ | _ | _ | _ | _ | _ | _ | _ | _ | _ | _ | _ | _ | _ | _ | _ | _ | _ | _ | _ | i
  all_goals first | rfl | omega
theorem permC_one (s : VS) : (permC s).all (·.oneCell') = true := by unfold permC; simp [Value.oneCell']
abbrev AT : TypeId := 55
theorem zeroA (W : World) : (zeroValue AT).run Try.prog W = .ok (.agg (kC (VS.mk 0 fun _ => 0))) W := by kernel_rfl
theorem infoA : (Try.prog.info? AT).map (·.size) = some 22 := by kernel_rfl
theorem guardA : Try.prog.eqGuardType Try.prog.depth AT = false := by kernel_rfl
def sameK (f w : VS) : Bool := (List.range 22).all fun i => (f.r (perm i) : Int) == (w.r (i + 1) : Int)
def sameB (f w : VS) : Bool := (f.m == w.m) && sameK f w
theorem eqA (f w : VS) (W : World) : (Op.equalIn 10000 AT (.agg (permC f)) (.agg (kC w))).run Try.prog W = .ok (sameK f w) W :=
  eqArr W 9998 Try.underlying55 Try.underlying23 (by kernel_rfl) (permC f) (kC w) _ _ (permC_at f) (kC_at w)
theorem kC_range {W : World} {g : Nat} {s : VS} (h : St RT W g s) : W.rangeAt g 1 (kC s).toList := fun j v hv => by
  have hj : j < 22 := by
    have := (List.getElem?_eq_some_iff.1 hv).1
    simpa [kC] using this
  rw [h.c (1 + j) (by omega) (by omega)]
  rw [Array.getElem?_toList, kC_at s j hj] at hv
  rw [Nat.add_comm 1 j]; exact hv
end Go.Proofs.Ytlhdildnekllhaa.H
/- The registers in plain Lean: what the code keeps is what the document keeps. No program in sight. -/
namespace Go.Proofs.Ytlhdildnekllhaa.H
open Go.RowKit Go.Proofs.YtlhdildnekllhaaW.PrintWords Go.Proofs.YtlhdildnekllhaaW.PrintLast Go.Proofs.Ytlhdildnekllhaa.PAl Go.Proofs.Ytlhdildnekllhaa.Pure Go.Proofs.Ytlhdildnekllhaa.Vw
set_option linter.unusedVariables false
set_option linter.unusedSimpArgs false
/-- A file is as the document's. -/
structure Rel (f w : VS) : Prop where
  m : f.m = w.m
  r : ∀ i, i < 22 → f.r (perm i) = w.r (i + 1)
theorem perm_inj : ∀ i, i < 22 → ∀ a, a < 22 → perm i = perm a → i = a := by decide
theorem Rel.set {f w : VS} (h : Rel f w) (a : Nat) (ha : a < 22) (v : Nat) : Rel (f.set (perm a) v) (w.set (a + 1) v) := ⟨h.m, fun i hi => by
  show (if perm i = perm a then v else f.r (perm i)) = if i + 1 = a + 1 then v else w.r (i + 1)
  by_cases e : i = a
  · subst e; rw [if_pos rfl, if_pos rfl]
  · rw [if_neg (fun q => e (perm_inj i hi a ha q)), if_neg (fun q => e (by omega)), h.r i hi]⟩
theorem Rel.mode {f w : VS} (h : Rel f w) (m : Int) : Rel (f.mode m) (w.mode m) := ⟨rfl, h.r⟩
theorem Rel.same {f w : VS} (h : Rel f w) : sameB f w = true := by
  unfold sameB sameK
  rw [h.m, beq_self_eq_true, Bool.true_and, List.all_eq_true]
  intro i hi
  rw [h.r i (List.mem_range.1 hi), beq_self_eq_true]
theorem Rel.of_same {f w : VS} (h : sameB f w = true) : Rel f w := by
  unfold sameB sameK at h
  rw [Bool.and_eq_true, List.all_eq_true] at h
  exact ⟨beq_iff_eq.1 h.1, fun i hi => by have := beq_iff_eq.1 (h.2 i (List.mem_range.2 hi)); omega⟩
theorem VS.set_self (s : VS) (j : Nat) : s.set j (s.r j) = s := VS.ext rfl (funext fun i => by show (if i = j then s.r j else s.r i) = s.r i; by_cases e : i = j; subst e; simp; simp [e])
theorem Rel.vs0 : Rel vs0 vs0 := ⟨rfl, fun _ _ => rfl⟩
theorem and_all {x : Nat} (h : U x) : x &&& 18446744073709551615 = x := by
  rw [show (18446744073709551615 : Nat) = 2 ^ 64 - 1 from rfl, Nat.and_two_pow_sub_one_eq_mod, Nat.mod_eq_of_lt (by rw [two64]; exact h.lt)]
theorem bit1 (x : Nat) : (x &&& 2 = 0) ↔ ¬ getW x 1 1 = 1 := by
  have h : getW x 1 1 = x / 2 % 2 := by
    unfold getW; rw [if_pos (by decide)]; rfl
  have h2 : x &&& 2 = 2 * (x / 2 % 2) := by
    apply Nat.eq_of_testBit_eq
    intro i
    rw [Nat.testBit_and]
    rcases i with _ | _ | i
    · simp [Nat.testBit_zero]
    · have : (2 * (x / 2 % 2)).testBit (0 + 1) = (x / 2 % 2).testBit 0 := by rw [Nat.testBit_succ]; congr 1; omega
      rw [this, Nat.testBit_succ, Nat.testBit_zero, Nat.testBit_zero]; simp; try (intro _; rfl)
    · have a2 : (2 : Nat).testBit (i + 1 + 1) = false := by rw [Nat.testBit_succ, Nat.testBit_succ]; simp
      have b2 : (2 * (x / 2 % 2)).testBit (i + 1 + 1) = false := by
        rw [Nat.testBit_succ, show 2 * (x / 2 % 2) / 2 = x / 2 % 2 by omega, Nat.testBit_succ, show x / 2 % 2 / 2 = 0 by omega]; simp
      rw [a2, b2]; simp
  rw [h, h2]; omega
def nums : List Int := [768, 256, 769, 770, 771, 772, 260, 836, 324, 773, 261, 774, 262, 832, 320, 834, 322, 835, 323, 2816, 2818, 833, 321, 384, 3072, 3073, 3074, 3857, 3858, 3859, 3860]
theorem rows_nums : rowsL.map (fun y => y.f0) = nums := by decide +kernel
theorem ofR_no {n : Int} (h : n ∉ nums) : (ofR n).2.2.2.2 = false := by
  unfold ofR findR
  have : rowsL.find? (fun x => decide (x.f0 = n)) = none := by
    rw [List.find?_eq_none]
    intro y hy hd
    apply h
    rw [← rows_nums, ← of_decide_eq_true hd]
    exact List.mem_map_of_mem hy
  rw [this]
theorem place_no {n : Int} (h : n ∉ nums) : placeW n = 0 := by
  simp only [nums, List.mem_cons, List.not_mem_nil, or_false, not_or] at h
  unfold placeW superW
  simp [h]
theorem row770 : (ofR 770).2.2 = (3, 46079, true) := by decide +kernel
theorem row771 : (ofR 771).2.2 = (4, 546, true) := by decide +kernel
theorem row772 : (ofR 772).2.2 = (5, 2730, true) := by decide +kernel
theorem row773 : (ofR 773).2.2 = (6, 18446744073709551615, true) := by decide +kernel
theorem row261 : (ofR 261).2.2 = (12, 18446744073709551615, true) := by decide +kernel
theorem row774 : (ofR 774).2.2 = (7, 7, true) := by decide +kernel
theorem row262 : (ofR 262).2.2 = (13, 7, true) := by decide +kernel
theorem row832 : (ofR 832).2.2 = (8, 18446744073709551615, true) := by decide +kernel
theorem row320 : (ofR 320).2.2 = (14, 18446744073709551615, true) := by decide +kernel
theorem row834 : (ofR 834).2.2 = (10, 18446744073709551615, true) := by decide +kernel
theorem row322 : (ofR 322).2.2 = (16, 18446744073709551615, true) := by decide +kernel
theorem row835 : (ofR 835).2.2 = (11, 18446744073709551615, true) := by decide +kernel
theorem row323 : (ofR 323).2.2 = (17, 18446744073709551615, true) := by decide +kernel
theorem row2816 : (ofR 2816).2.2 = (19, 18446744073709551615, true) := by decide +kernel
theorem row2818 : (ofR 2818).2.2 = (20, 18446744073709551615, true) := by decide +kernel
theorem row833 : (ofR 833).2.2 = (9, 18446744073709551612, true) := by decide +kernel
theorem row321 : (ofR 321).2.2 = (15, 18446744073709551612, true) := by decide +kernel
theorem row384 : (ofR 384).2.2 = (18, 18446744073709551615, true) := by decide +kernel
theorem row3072 : (ofR 3072).2.2 = (19, 0, true) := by decide +kernel
theorem row3073 : (ofR 3073).2.2 = (21, 0, true) := by decide +kernel
theorem row3074 : (ofR 3074).2.2 = (20, 0, true) := by decide +kernel
theorem row769 : (ofR 769).2.2 = (-1, 0, true) := by decide +kernel
theorem row3857 : (ofR 3857).2.2 = (-1, 0, true) := by decide +kernel
theorem row3858 : (ofR 3858).2.2 = (-1, 0, true) := by decide +kernel
theorem row3859 : (ofR 3859).2.2 = (-1, 0, true) := by decide +kernel
theorem row3860 : (ofR 3860).2.2 = (-1, 0, true) := by decide +kernel
theorem rw_row {n : Int} {a : Nat} {k : Nat} (s : VS) (x : Nat) (hn : NotFive n) (h : (ofR n).2.2 = ((a : Int), (k : Int), true)) (hk : k ≠ 0) :
    rwriteW s n x = if (a = 6 ∨ a = 12) ∧ getW x 1 1 = 1 then s else if a = 18 ∧ getW x 60 4 ≠ 0 ∧ getW x 60 4 ≠ 8 then s else s.set (a + 1) (x &&& k) := by
  have b1 := beq_eq_false_iff_ne.1 hn.b1
  have b2 := beq_eq_false_iff_ne.1 hn.b2
  have b3 := beq_eq_false_iff_ne.1 hn.b3
  have b4 := beq_eq_false_iff_ne.1 hn.b4
  have b5 := beq_eq_false_iff_ne.1 hn.b5
  unfold rwriteW
  rw [if_neg b1, if_neg b2, if_neg b3, if_neg b4, if_neg b5, h]
  dsimp only
  rw [if_neg (by rintro (q | q | q); cases q; omega; omega), Int.toNat_natCast, Int.toNat_natCast]
  have e6 : ((a : Int) = 6 ∨ (a : Int) = 12) ↔ (a = 6 ∨ a = 12) := by omega
  have e18 : ((a : Int) = 18) ↔ (a = 18) := by omega
  simp only [e6, e18]
theorem rw_no {n : Int} (s : VS) (x : Nat) (hn : NotFive n) (h : (ofR n).2.2.2.2 = false ∨ (ofR n).2.2.1 < 0 ∨ (ofR n).2.2.2.1 = 0) : rwriteW s n x = s := by
  have b1 := beq_eq_false_iff_ne.1 hn.b1
  have b2 := beq_eq_false_iff_ne.1 hn.b2
  have b3 := beq_eq_false_iff_ne.1 hn.b3
  have b4 := beq_eq_false_iff_ne.1 hn.b4
  have b5 := beq_eq_false_iff_ne.1 hn.b5
  unfold rwriteW
  rw [if_neg b1, if_neg b2, if_neg b3, if_neg b4, if_neg b5, if_pos h]
theorem wr_row {n : Int} (s : VS) (x : Nat) (hn : NotFive n) (hc : ¬ (n = 3072 ∨ n = 3073 ∨ n = 3074)) : writeW s n x = if placeW n = 0 then s else s.set (placeW n) (legalW n (s.r (placeW n)) x) := by
  have b1 := beq_eq_false_iff_ne.1 hn.b1
  have b2 := beq_eq_false_iff_ne.1 hn.b2
  have b3 := beq_eq_false_iff_ne.1 hn.b3
  have b4 := beq_eq_false_iff_ne.1 hn.b4
  have b5 := beq_eq_false_iff_ne.1 hn.b5
  unfold writeW
  rw [if_neg b1, if_neg b2, if_neg b3, if_neg b4, if_neg b5, if_neg hc]
theorem step770 {f w : VS} (h : Rel f w) (x : Nat) (hx : U x) : Rel (writeW f 770 x) (rwriteW w 770 x) := by
  rw [wr_row f x ⟨by decide, by decide, by decide, by decide, by decide⟩ (by decide), rw_row (a := 3) (k := 46079) w x ⟨by decide, by decide, by decide, by decide, by decide⟩ row770 (by decide), show placeW 770 = perm 3 from by decide, if_neg (show ¬ perm 3 = 0 from by decide)]
  rw [show legalW 770 (f.r (perm 3)) x = x &&& 46079 from rfl, if_neg (show ¬ ((3 = 6 ∨ 3 = 12) ∧ _) from fun q => absurd q.1 (by decide)), if_neg (show ¬ (3 = 18 ∧ _) from fun q => absurd q.1 (by decide))]
  exact h.set 3 (by decide) _
theorem step771 {f w : VS} (h : Rel f w) (x : Nat) (hx : U x) : Rel (writeW f 771 x) (rwriteW w 771 x) := by
  rw [wr_row f x ⟨by decide, by decide, by decide, by decide, by decide⟩ (by decide), rw_row (a := 4) (k := 546) w x ⟨by decide, by decide, by decide, by decide, by decide⟩ row771 (by decide), show placeW 771 = perm 4 from by decide, if_neg (show ¬ perm 4 = 0 from by decide)]
  rw [show legalW 771 (f.r (perm 4)) x = x &&& 546 from rfl, if_neg (show ¬ ((4 = 6 ∨ 4 = 12) ∧ _) from fun q => absurd q.1 (by decide)), if_neg (show ¬ (4 = 18 ∧ _) from fun q => absurd q.1 (by decide))]
  exact h.set 4 (by decide) _
theorem step772 {f w : VS} (h : Rel f w) (x : Nat) (hx : U x) : Rel (writeW f 772 x) (rwriteW w 772 x) := by
  rw [wr_row f x ⟨by decide, by decide, by decide, by decide, by decide⟩ (by decide), rw_row (a := 5) (k := 2730) w x ⟨by decide, by decide, by decide, by decide, by decide⟩ row772 (by decide), show placeW 772 = perm 5 from by decide, if_neg (show ¬ perm 5 = 0 from by decide)]
  rw [show legalW 772 (f.r (perm 5)) x = x &&& 2730 from rfl, if_neg (show ¬ ((5 = 6 ∨ 5 = 12) ∧ _) from fun q => absurd q.1 (by decide)), if_neg (show ¬ (5 = 18 ∧ _) from fun q => absurd q.1 (by decide))]
  exact h.set 5 (by decide) _
theorem step773 {f w : VS} (h : Rel f w) (x : Nat) (hx : U x) : Rel (writeW f 773 x) (rwriteW w 773 x) := by
  rw [wr_row f x ⟨by decide, by decide, by decide, by decide, by decide⟩ (by decide), rw_row (a := 6) (k := 18446744073709551615) w x ⟨by decide, by decide, by decide, by decide, by decide⟩ row773 (by decide), show placeW 773 = perm 6 from by decide, if_neg (show ¬ perm 6 = 0 from by decide)]
  have hl : legalW 773 (f.r (perm 6)) x = if x &&& 2 = 0 then x else f.r (perm 6) := rfl
  rw [hl]
  by_cases hb : getW x 1 1 = 1
  · rw [if_neg (show ¬ x &&& 2 = 0 from fun q => (bit1 x).1 q hb), if_pos (show (6 = 6 ∨ 6 = 12) ∧ getW x 1 1 = 1 from ⟨by decide, hb⟩)]
    rw [VS.set_self]; exact h
  · rw [if_pos ((bit1 x).2 hb), if_neg (show ¬ ((6 = 6 ∨ 6 = 12) ∧ getW x 1 1 = 1) from fun q => hb q.2), if_neg (show ¬ (6 = 18 ∧ _) from fun q => absurd q.1 (by decide)), and_all hx]
    exact h.set 6 (by decide) x
theorem step261 {f w : VS} (h : Rel f w) (x : Nat) (hx : U x) : Rel (writeW f 261 x) (rwriteW w 261 x) := by
  rw [wr_row f x ⟨by decide, by decide, by decide, by decide, by decide⟩ (by decide), rw_row (a := 12) (k := 18446744073709551615) w x ⟨by decide, by decide, by decide, by decide, by decide⟩ row261 (by decide), show placeW 261 = perm 12 from by decide, if_neg (show ¬ perm 12 = 0 from by decide)]
  have hl : legalW 261 (f.r (perm 12)) x = if x &&& 2 = 0 then x else f.r (perm 12) := rfl
  rw [hl]
  by_cases hb : getW x 1 1 = 1
  · rw [if_neg (show ¬ x &&& 2 = 0 from fun q => (bit1 x).1 q hb), if_pos (show (12 = 6 ∨ 12 = 12) ∧ getW x 1 1 = 1 from ⟨by decide, hb⟩)]
    rw [VS.set_self]; exact h
  · rw [if_pos ((bit1 x).2 hb), if_neg (show ¬ ((12 = 6 ∨ 12 = 12) ∧ getW x 1 1 = 1) from fun q => hb q.2), if_neg (show ¬ (12 = 18 ∧ _) from fun q => absurd q.1 (by decide)), and_all hx]
    exact h.set 12 (by decide) x
theorem step774 {f w : VS} (h : Rel f w) (x : Nat) (hx : U x) : Rel (writeW f 774 x) (rwriteW w 774 x) := by
  rw [wr_row f x ⟨by decide, by decide, by decide, by decide, by decide⟩ (by decide), rw_row (a := 7) (k := 7) w x ⟨by decide, by decide, by decide, by decide, by decide⟩ row774 (by decide), show placeW 774 = perm 7 from by decide, if_neg (show ¬ perm 7 = 0 from by decide)]
  rw [show legalW 774 (f.r (perm 7)) x = x &&& 7 from rfl, if_neg (show ¬ ((7 = 6 ∨ 7 = 12) ∧ _) from fun q => absurd q.1 (by decide)), if_neg (show ¬ (7 = 18 ∧ _) from fun q => absurd q.1 (by decide))]
  exact h.set 7 (by decide) _
theorem step262 {f w : VS} (h : Rel f w) (x : Nat) (hx : U x) : Rel (writeW f 262 x) (rwriteW w 262 x) := by
  rw [wr_row f x ⟨by decide, by decide, by decide, by decide, by decide⟩ (by decide), rw_row (a := 13) (k := 7) w x ⟨by decide, by decide, by decide, by decide, by decide⟩ row262 (by decide), show placeW 262 = perm 13 from by decide, if_neg (show ¬ perm 13 = 0 from by decide)]
  rw [show legalW 262 (f.r (perm 13)) x = x &&& 7 from rfl, if_neg (show ¬ ((13 = 6 ∨ 13 = 12) ∧ _) from fun q => absurd q.1 (by decide)), if_neg (show ¬ (13 = 18 ∧ _) from fun q => absurd q.1 (by decide))]
  exact h.set 13 (by decide) _
theorem step832 {f w : VS} (h : Rel f w) (x : Nat) (hx : U x) : Rel (writeW f 832 x) (rwriteW w 832 x) := by
  rw [wr_row f x ⟨by decide, by decide, by decide, by decide, by decide⟩ (by decide), rw_row (a := 8) (k := 18446744073709551615) w x ⟨by decide, by decide, by decide, by decide, by decide⟩ row832 (by decide), show placeW 832 = perm 8 from by decide, if_neg (show ¬ perm 8 = 0 from by decide)]
  rw [show legalW 832 (f.r (perm 8)) x = x from rfl, if_neg (show ¬ ((8 = 6 ∨ 8 = 12) ∧ _) from fun q => absurd q.1 (by decide)), if_neg (show ¬ (8 = 18 ∧ _) from fun q => absurd q.1 (by decide)), and_all hx]
  exact h.set 8 (by decide) _
theorem step320 {f w : VS} (h : Rel f w) (x : Nat) (hx : U x) : Rel (writeW f 320 x) (rwriteW w 320 x) := by
  rw [wr_row f x ⟨by decide, by decide, by decide, by decide, by decide⟩ (by decide), rw_row (a := 14) (k := 18446744073709551615) w x ⟨by decide, by decide, by decide, by decide, by decide⟩ row320 (by decide), show placeW 320 = perm 14 from by decide, if_neg (show ¬ perm 14 = 0 from by decide)]
  rw [show legalW 320 (f.r (perm 14)) x = x from rfl, if_neg (show ¬ ((14 = 6 ∨ 14 = 12) ∧ _) from fun q => absurd q.1 (by decide)), if_neg (show ¬ (14 = 18 ∧ _) from fun q => absurd q.1 (by decide)), and_all hx]
  exact h.set 14 (by decide) _
theorem step834 {f w : VS} (h : Rel f w) (x : Nat) (hx : U x) : Rel (writeW f 834 x) (rwriteW w 834 x) := by
  rw [wr_row f x ⟨by decide, by decide, by decide, by decide, by decide⟩ (by decide), rw_row (a := 10) (k := 18446744073709551615) w x ⟨by decide, by decide, by decide, by decide, by decide⟩ row834 (by decide), show placeW 834 = perm 10 from by decide, if_neg (show ¬ perm 10 = 0 from by decide)]
  rw [show legalW 834 (f.r (perm 10)) x = x from rfl, if_neg (show ¬ ((10 = 6 ∨ 10 = 12) ∧ _) from fun q => absurd q.1 (by decide)), if_neg (show ¬ (10 = 18 ∧ _) from fun q => absurd q.1 (by decide)), and_all hx]
  exact h.set 10 (by decide) _
theorem step322 {f w : VS} (h : Rel f w) (x : Nat) (hx : U x) : Rel (writeW f 322 x) (rwriteW w 322 x) := by
  rw [wr_row f x ⟨by decide, by decide, by decide, by decide, by decide⟩ (by decide), rw_row (a := 16) (k := 18446744073709551615) w x ⟨by decide, by decide, by decide, by decide, by decide⟩ row322 (by decide), show placeW 322 = perm 16 from by decide, if_neg (show ¬ perm 16 = 0 from by decide)]
  rw [show legalW 322 (f.r (perm 16)) x = x from rfl, if_neg (show ¬ ((16 = 6 ∨ 16 = 12) ∧ _) from fun q => absurd q.1 (by decide)), if_neg (show ¬ (16 = 18 ∧ _) from fun q => absurd q.1 (by decide)), and_all hx]
  exact h.set 16 (by decide) _
theorem step835 {f w : VS} (h : Rel f w) (x : Nat) (hx : U x) : Rel (writeW f 835 x) (rwriteW w 835 x) := by
  rw [wr_row f x ⟨by decide, by decide, by decide, by decide, by decide⟩ (by decide), rw_row (a := 11) (k := 18446744073709551615) w x ⟨by decide, by decide, by decide, by decide, by decide⟩ row835 (by decide), show placeW 835 = perm 11 from by decide, if_neg (show ¬ perm 11 = 0 from by decide)]
  rw [show legalW 835 (f.r (perm 11)) x = x from rfl, if_neg (show ¬ ((11 = 6 ∨ 11 = 12) ∧ _) from fun q => absurd q.1 (by decide)), if_neg (show ¬ (11 = 18 ∧ _) from fun q => absurd q.1 (by decide)), and_all hx]
  exact h.set 11 (by decide) _
theorem step323 {f w : VS} (h : Rel f w) (x : Nat) (hx : U x) : Rel (writeW f 323 x) (rwriteW w 323 x) := by
  rw [wr_row f x ⟨by decide, by decide, by decide, by decide, by decide⟩ (by decide), rw_row (a := 17) (k := 18446744073709551615) w x ⟨by decide, by decide, by decide, by decide, by decide⟩ row323 (by decide), show placeW 323 = perm 17 from by decide, if_neg (show ¬ perm 17 = 0 from by decide)]
  rw [show legalW 323 (f.r (perm 17)) x = x from rfl, if_neg (show ¬ ((17 = 6 ∨ 17 = 12) ∧ _) from fun q => absurd q.1 (by decide)), if_neg (show ¬ (17 = 18 ∧ _) from fun q => absurd q.1 (by decide)), and_all hx]
  exact h.set 17 (by decide) _
theorem step2816 {f w : VS} (h : Rel f w) (x : Nat) (hx : U x) : Rel (writeW f 2816 x) (rwriteW w 2816 x) := by
  rw [wr_row f x ⟨by decide, by decide, by decide, by decide, by decide⟩ (by decide), rw_row (a := 19) (k := 18446744073709551615) w x ⟨by decide, by decide, by decide, by decide, by decide⟩ row2816 (by decide), show placeW 2816 = perm 19 from by decide, if_neg (show ¬ perm 19 = 0 from by decide)]
  rw [show legalW 2816 (f.r (perm 19)) x = x from rfl, if_neg (show ¬ ((19 = 6 ∨ 19 = 12) ∧ _) from fun q => absurd q.1 (by decide)), if_neg (show ¬ (19 = 18 ∧ _) from fun q => absurd q.1 (by decide)), and_all hx]
  exact h.set 19 (by decide) _
theorem step2818 {f w : VS} (h : Rel f w) (x : Nat) (hx : U x) : Rel (writeW f 2818 x) (rwriteW w 2818 x) := by
  rw [wr_row f x ⟨by decide, by decide, by decide, by decide, by decide⟩ (by decide), rw_row (a := 20) (k := 18446744073709551615) w x ⟨by decide, by decide, by decide, by decide, by decide⟩ row2818 (by decide), show placeW 2818 = perm 20 from by decide, if_neg (show ¬ perm 20 = 0 from by decide)]
  rw [show legalW 2818 (f.r (perm 20)) x = x from rfl, if_neg (show ¬ ((20 = 6 ∨ 20 = 12) ∧ _) from fun q => absurd q.1 (by decide)), if_neg (show ¬ (20 = 18 ∧ _) from fun q => absurd q.1 (by decide)), and_all hx]
  exact h.set 20 (by decide) _
theorem step833 {f w : VS} (h : Rel f w) (x : Nat) (hx : U x) : Rel (writeW f 833 x) (rwriteW w 833 x) := by
  rw [wr_row f x ⟨by decide, by decide, by decide, by decide, by decide⟩ (by decide), rw_row (a := 9) (k := 18446744073709551612) w x ⟨by decide, by decide, by decide, by decide, by decide⟩ row833 (by decide), show placeW 833 = perm 9 from by decide, if_neg (show ¬ perm 9 = 0 from by decide)]
  rw [show legalW 833 (f.r (perm 9)) x = minus x 3 from rfl, if_neg (show ¬ ((9 = 6 ∨ 9 = 12) ∧ _) from fun q => absurd q.1 (by decide)), if_neg (show ¬ (9 = 18 ∧ _) from fun q => absurd q.1 (by decide))]
  exact h.set 9 (by decide) _
theorem step321 {f w : VS} (h : Rel f w) (x : Nat) (hx : U x) : Rel (writeW f 321 x) (rwriteW w 321 x) := by
  rw [wr_row f x ⟨by decide, by decide, by decide, by decide, by decide⟩ (by decide), rw_row (a := 15) (k := 18446744073709551612) w x ⟨by decide, by decide, by decide, by decide, by decide⟩ row321 (by decide), show placeW 321 = perm 15 from by decide, if_neg (show ¬ perm 15 = 0 from by decide)]
  rw [show legalW 321 (f.r (perm 15)) x = minus x 3 from rfl, if_neg (show ¬ ((15 = 6 ∨ 15 = 12) ∧ _) from fun q => absurd q.1 (by decide)), if_neg (show ¬ (15 = 18 ∧ _) from fun q => absurd q.1 (by decide))]
  exact h.set 15 (by decide) _
theorem step384 {f w : VS} (h : Rel f w) (x : Nat) (hx : U x) : Rel (writeW f 384 x) (rwriteW w 384 x) := by
  rw [wr_row f x ⟨by decide, by decide, by decide, by decide, by decide⟩ (by decide), rw_row (a := 18) (k := 18446744073709551615) w x ⟨by decide, by decide, by decide, by decide, by decide⟩ row384 (by decide), show placeW 384 = perm 18 from by decide, if_neg (show ¬ perm 18 = 0 from by decide)]
  have hl : legalW 384 (f.r (perm 18)) x = if getW x 60 4 = 0 ∨ getW x 60 4 = 8 then x else f.r (perm 18) := rfl
  rw [hl, if_neg (show ¬ ((18 = 6 ∨ 18 = 12) ∧ _) from fun q => absurd q.1 (by decide))]
  by_cases hb : getW x 60 4 = 0 ∨ getW x 60 4 = 8
  · rw [if_pos hb, if_neg (fun q => by rcases hb with e | e; exact q.2.1 e; exact q.2.2 e), and_all hx]
    exact h.set 18 (by decide) x
  · rw [if_neg hb, if_pos ⟨rfl, fun e => hb (.inl e), fun e => hb (.inr e)⟩]
    rw [VS.set_self]; exact h
theorem mix_one (h : U 8264106) : True := trivial
theorem Rel.write {f w : VS} (h : Rel f w) (n : Int) (x : Nat) (hx : U x) : Rel (writeW f n x) (rwriteW w n x) := by
  by_cases h1 : n = 768
  · subst h1
    unfold writeW rwriteW statusW
    rw [if_pos rfl, if_pos rfl]
    have e0 : f.r 1 = w.r 1 := h.r 0 (by decide)
    by_cases hg : getW x 11 2 = 2
    · rw [if_pos hg, if_pos hg, e0]
      exact h.set 0 (by decide) _
    · rw [if_neg hg, if_neg hg, e0]
      exact h.set 0 (by decide) _
  by_cases h2 : n = 256
  · subst h2
    have e0 : f.r 1 = w.r 1 := h.r 0 (by decide)
    have e1 : writeW f 256 x = statusW f x 786722 := rfl
    have e2 : rwriteW w 256 x = w.set 1 (mixW (w.r 1) x 786722) := rfl
    rw [e1, e2]
    unfold statusW
    have key : getW x 11 2 = 2 → minus 786722 6144 = 786722 := fun _ => by decide
    by_cases hg : getW x 11 2 = 2
    · rw [if_pos hg, key hg, e0]
      exact h.set 0 (by decide) _
    · rw [if_neg hg, e0]
      exact h.set 0 (by decide) _
  by_cases h3 : n = 836
  · subst h3
    exact h.set 1 (by decide) _
  by_cases h4 : n = 324
  · subst h4
    have e1 : f.r 5 = w.r 2 := h.r 1 (by decide)
    have e2 : f.r 3 = w.r 5 := h.r 4 (by decide)
    have e3 : writeW f 324 x = f.set 5 (minus (f.r 5) (f.r 3 &&& 2) ||| (x &&& (f.r 3 &&& 2))) := rfl
    have e4 : rwriteW w 324 x = w.set 2 (mixW (w.r 2) x (w.r 5 &&& 2)) := rfl
    rw [e3, e4, e1, e2]
    exact h.set 1 (by decide) _
  by_cases h5 : n = 260
  · subst h5
    have e1 : f.r 4 = w.r 6 := h.r 5 (by decide)
    have e2 : f.r 3 = w.r 5 := h.r 4 (by decide)
    have e3 : writeW f 260 x = f.set 4 (minus (f.r 4) (f.r 3) ||| (x &&& f.r 3)) := rfl
    have e4 : rwriteW w 260 x = w.set 6 (mixW (w.r 6) x (w.r 5)) := rfl
    rw [e3, e4, e1, e2]
    exact h.set 5 (by decide) _
  have hn : NotFive n := ⟨beq_no h1, beq_no h2, beq_no h3, beq_no h4, beq_no h5⟩
  by_cases hc : n = 3072 ∨ n = 3073 ∨ n = 3074
  · have e1 : writeW f n x = f := by unfold writeW; rw [if_neg h1, if_neg h2, if_neg h3, if_neg h4, if_neg h5, if_pos hc]
    have e2 : rwriteW w n x = w := rw_no w x hn (by rcases hc with rfl | rfl | rfl; rw [row3072]; simp; rw [row3073]; simp; rw [row3074]; simp)
    rw [e1, e2]; exact h
  by_cases c770 : n = 770
  · subst c770; exact step770 h x hx
  by_cases c771 : n = 771
  · subst c771; exact step771 h x hx
  by_cases c772 : n = 772
  · subst c772; exact step772 h x hx
  by_cases c773 : n = 773
  · subst c773; exact step773 h x hx
  by_cases c261 : n = 261
  · subst c261; exact step261 h x hx
  by_cases c774 : n = 774
  · subst c774; exact step774 h x hx
  by_cases c262 : n = 262
  · subst c262; exact step262 h x hx
  by_cases c832 : n = 832
  · subst c832; exact step832 h x hx
  by_cases c320 : n = 320
  · subst c320; exact step320 h x hx
  by_cases c834 : n = 834
  · subst c834; exact step834 h x hx
  by_cases c322 : n = 322
  · subst c322; exact step322 h x hx
  by_cases c835 : n = 835
  · subst c835; exact step835 h x hx
  by_cases c323 : n = 323
  · subst c323; exact step323 h x hx
  by_cases c2816 : n = 2816
  · subst c2816; exact step2816 h x hx
  by_cases c2818 : n = 2818
  · subst c2818; exact step2818 h x hx
  by_cases c833 : n = 833
  · subst c833; exact step833 h x hx
  by_cases c321 : n = 321
  · subst c321; exact step321 h x hx
  by_cases c384 : n = 384
  · subst c384; exact step384 h x hx
  have hp : placeW n = 0 := by
    simp only [not_or] at hc
    unfold placeW superW
    simp [hc, c770, c771, c772, c773, c261, c774, c262, c832, c320, c834, c322, c835, c323, c2816, c2818, c833, c321, c384]
  have e1 : writeW f n x = f := by rw [wr_row f x hn hc, if_pos hp]
  have e2 : rwriteW w n x = w := by
    apply rw_no w x hn
    by_cases hi : n ∈ nums
    · simp only [nums, List.mem_cons, List.not_mem_nil, or_false] at hi
      simp only [not_or] at hc
      simp only [h1, h2, h3, h4, h5, hc, c770, c771, c772, c773, c261, c774, c262, c832, c320, c834, c322, c835, c323, c2816, c2818, c833, c321, c384, false_or, or_false] at hi
      rcases hi with rfl | rfl | rfl | rfl | rfl
      · rw [row769]; simp
      · rw [row3857]; simp
      · rw [row3858]; simp
      · rw [row3859]; simp
      · rw [row3860]; simp
    · exact .inl (ofR_no hi)
  rw [e1, e2]; exact h
theorem Rel.fold {xs : List WR} (hx : wrOk xs) : ∀ k, Rel (foldF xs k) (foldR xs k)
  | 0 => Rel.vs0
  | k + 1 => (Rel.fold hx k).write _ _ (wrOk_at hx k).2
theorem Rel.bg {xs : List WR} (hx : wrOk xs) (m : Int) (l : Nat) : Rel (bgF m xs l) (bgR m xs l) := ((Rel.fold hx _).set 2 (by decide) _).mode m
end Go.Proofs.Ytlhdildnekllhaa.H
