/- The registers in plain Lean: what the code keeps is what the document keeps. No program in sight. -/
import Derived.Test.YtkbnoeebnmphbaaHsame
namespace Go.Proofs.Ytkbnoeebnmphbaa.H
open Go.RowKit Go.Proofs.YtkbnoeebnmphbaaW.PrintWords Go.Proofs.YtkbnoeebnmphbaaW.PrintLast Go.Proofs.Ytkbnoeebnmphbaa.PAl Go.Proofs.Ytkbnoeebnmphbaa.Pure Go.Proofs.Ytkbnoeebnmphbaa.Vw
set_option linter.unusedVariables false
set_option linter.unusedSimpArgs false
/-- A file is as the document's. -/
structure Rel (f w : VS) : Prop where
  m : f.m = w.m
  r : ∀ i, i < 22 → f.r (perm i) = w.r (i + 1)
theorem perm_inj : ∀ i, i < 22 → ∀ a, a < 22 → perm i = perm a → i = a := by decide
theorem Rel.set {f w : VS} (h : Rel f w) (a : Nat) (ha : a < 22) (v : Nat) : Rel (f.set (perm a) v) (w.set (a + 1) v) := ⟨h.m, fun i hi => by
  show (if perm i = perm a then v else f.r (perm i)) = if i + 1 = a + 1 then v else w.r (i + 1)
  by_cases e : i = a
  · subst e; rw [if_pos rfl, if_pos rfl]
  · rw [if_neg (fun q => e (perm_inj i hi a ha q)), if_neg (fun q => e (by omega)), h.r i hi]⟩
theorem Rel.mode {f w : VS} (h : Rel f w) (m : Int) : Rel (f.mode m) (w.mode m) := ⟨rfl, h.r⟩
theorem Rel.same {f w : VS} (h : Rel f w) : sameB f w = true := by
  unfold sameB sameK
  rw [h.m, beq_self_eq_true, Bool.true_and, List.all_eq_true]
  intro i hi
  rw [h.r i (List.mem_range.1 hi), beq_self_eq_true]
theorem Rel.of_same {f w : VS} (h : sameB f w = true) : Rel f w := by
  unfold sameB sameK at h
  rw [Bool.and_eq_true, List.all_eq_true] at h
  exact ⟨beq_iff_eq.1 h.1, fun i hi => by have := beq_iff_eq.1 (h.2 i (List.mem_range.2 hi)); omega⟩
theorem VS.set_self (s : VS) (j : Nat) : s.set j (s.r j) = s := VS.ext rfl (funext fun i => by show (if i = j then s.r j else s.r i) = s.r i; by_cases e : i = j; subst e; simp; simp [e])
theorem Rel.vs0 : Rel vs0 vs0 := ⟨rfl, fun _ _ => rfl⟩
theorem and_all {x : Nat} (h : U x) : x &&& 18446744073709551615 = x := by
  rw [show (18446744073709551615 : Nat) = 2 ^ 64 - 1 from rfl, Nat.and_two_pow_sub_one_eq_mod, Nat.mod_eq_of_lt (by rw [two64]; exact h.lt)]
theorem bit1 (x : Nat) : (x &&& 2 = 0) ↔ ¬ getW x 1 1 = 1 := by
  have h : getW x 1 1 = x / 2 % 2 := by
    unfold getW; rw [if_pos (by decide)]; rfl
  have h2 : x &&& 2 = 2 * (x / 2 % 2) := by
    apply Nat.eq_of_testBit_eq
    intro i
    rw [Nat.testBit_and]
    rcases i with _ | _ | i
    · simp [Nat.testBit_zero]
    · have : (2 * (x / 2 % 2)).testBit (0 + 1) = (x / 2 % 2).testBit 0 := by rw [Nat.testBit_succ]; congr 1; omega
      rw [this, Nat.testBit_succ, Nat.testBit_zero, Nat.testBit_zero]; simp; try (intro _; rfl)
    · have a2 : (2 : Nat).testBit (i + 1 + 1) = false := by rw [Nat.testBit_succ, Nat.testBit_succ]; simp
      have b2 : (2 * (x / 2 % 2)).testBit (i + 1 + 1) = false := by
        rw [Nat.testBit_succ, show 2 * (x / 2 % 2) / 2 = x / 2 % 2 by omega, Nat.testBit_succ, show x / 2 % 2 / 2 = 0 by omega]; simp
      rw [a2, b2]; simp
  rw [h, h2]; omega
def nums : List Int := [768, 256, 769, 770, 771, 772, 260, 836, 324, 773, 261, 774, 262, 832, 320, 834, 322, 835, 323, 2816, 2818, 833, 321, 384, 3072, 3073, 3074, 3857, 3858, 3859, 3860]
theorem rows_nums : rowsL.map (fun y => y.f0) = nums := by decide +kernel
theorem ofR_no {n : Int} (h : n ∉ nums) : (ofR n).2.2.2.2 = false := by
  unfold ofR findR
  have : rowsL.find? (fun x => decide (x.f0 = n)) = none := by
    rw [List.find?_eq_none]
    intro y hy hd
    apply h
    rw [← rows_nums, ← of_decide_eq_true hd]
    exact List.mem_map_of_mem hy
  rw [this]
theorem place_no {n : Int} (h : n ∉ nums) : placeW n = 0 := by
  simp only [nums, List.mem_cons, List.not_mem_nil, or_false, not_or] at h
  unfold placeW superW
  simp [h]
theorem row770 : (ofR 770).2.2 = (3, 46079, true) := by decide +kernel
theorem row771 : (ofR 771).2.2 = (4, 546, true) := by decide +kernel
theorem row772 : (ofR 772).2.2 = (5, 2730, true) := by decide +kernel
theorem row773 : (ofR 773).2.2 = (6, 18446744073709551615, true) := by decide +kernel
theorem row261 : (ofR 261).2.2 = (12, 18446744073709551615, true) := by decide +kernel
theorem row774 : (ofR 774).2.2 = (7, 7, true) := by decide +kernel
theorem row262 : (ofR 262).2.2 = (13, 7, true) := by decide +kernel
theorem row832 : (ofR 832).2.2 = (8, 18446744073709551615, true) := by decide +kernel
theorem row320 : (ofR 320).2.2 = (14, 18446744073709551615, true) := by decide +kernel
theorem row834 : (ofR 834).2.2 = (10, 18446744073709551615, true) := by decide +kernel
theorem row322 : (ofR 322).2.2 = (16, 18446744073709551615, true) := by decide +kernel
theorem row835 : (ofR 835).2.2 = (11, 18446744073709551615, true) := by decide +kernel
theorem row323 : (ofR 323).2.2 = (17, 18446744073709551615, true) := by decide +kernel
theorem row2816 : (ofR 2816).2.2 = (19, 18446744073709551615, true) := by decide +kernel
theorem row2818 : (ofR 2818).2.2 = (20, 18446744073709551615, true) := by decide +kernel
theorem row833 : (ofR 833).2.2 = (9, 18446744073709551612, true) := by decide +kernel
theorem row321 : (ofR 321).2.2 = (15, 18446744073709551612, true) := by decide +kernel
theorem row384 : (ofR 384).2.2 = (18, 18446744073709551615, true) := by decide +kernel
theorem row3072 : (ofR 3072).2.2 = (19, 0, true) := by decide +kernel
theorem row3073 : (ofR 3073).2.2 = (21, 0, true) := by decide +kernel
theorem row3074 : (ofR 3074).2.2 = (20, 0, true) := by decide +kernel
theorem row769 : (ofR 769).2.2 = (-1, 0, true) := by decide +kernel
theorem row3857 : (ofR 3857).2.2 = (-1, 0, true) := by decide +kernel
theorem row3858 : (ofR 3858).2.2 = (-1, 0, true) := by decide +kernel
theorem row3859 : (ofR 3859).2.2 = (-1, 0, true) := by decide +kernel
theorem row3860 : (ofR 3860).2.2 = (-1, 0, true) := by decide +kernel
theorem rw_row {n : Int} {a : Nat} {k : Nat} (s : VS) (x : Nat) (hn : NotFive n) (h : (ofR n).2.2 = ((a : Int), (k : Int), true)) (hk : k ≠ 0) :
    rwriteW s n x = if (a = 6 ∨ a = 12) ∧ getW x 1 1 = 1 then s else if a = 18 ∧ getW x 60 4 ≠ 0 ∧ getW x 60 4 ≠ 8 then s else s.set (a + 1) (x &&& k) := by
  have b1 := beq_eq_false_iff_ne.1 hn.b1
  have b2 := beq_eq_false_iff_ne.1 hn.b2
  have b3 := beq_eq_false_iff_ne.1 hn.b3
  have b4 := beq_eq_false_iff_ne.1 hn.b4
  have b5 := beq_eq_false_iff_ne.1 hn.b5
  unfold rwriteW
  rw [if_neg b1, if_neg b2, if_neg b3, if_neg b4, if_neg b5, h]
  dsimp only
  rw [if_neg (by rintro (q | q | q); cases q; omega; omega), Int.toNat_natCast, Int.toNat_natCast]
  have e6 : ((a : Int) = 6 ∨ (a : Int) = 12) ↔ (a = 6 ∨ a = 12) := by omega
  have e18 : ((a : Int) = 18) ↔ (a = 18) := by omega
  simp only [e6, e18]
theorem rw_no {n : Int} (s : VS) (x : Nat) (hn : NotFive n) (h : (ofR n).2.2.2.2 = false ∨ (ofR n).2.2.1 < 0 ∨ (ofR n).2.2.2.1 = 0) : rwriteW s n x = s := by
  have b1 := beq_eq_false_iff_ne.1 hn.b1
  have b2 := beq_eq_false_iff_ne.1 hn.b2
  have b3 := beq_eq_false_iff_ne.1 hn.b3
  have b4 := beq_eq_false_iff_ne.1 hn.b4
  have b5 := beq_eq_false_iff_ne.1 hn.b5
  unfold rwriteW
  rw [if_neg b1, if_neg b2, if_neg b3, if_neg b4, if_neg b5, if_pos h]
theorem wr_row {n : Int} (s : VS) (x : Nat) (hn : NotFive n) (hc : ¬ (n = 3072 ∨ n = 3073 ∨ n = 3074)) : writeW s n x = if placeW n = 0 then s else s.set (placeW n) (legalW n (s.r (placeW n)) x) := by
  have b1 := beq_eq_false_iff_ne.1 hn.b1
  have b2 := beq_eq_false_iff_ne.1 hn.b2
  have b3 := beq_eq_false_iff_ne.1 hn.b3
  have b4 := beq_eq_false_iff_ne.1 hn.b4
  have b5 := beq_eq_false_iff_ne.1 hn.b5
  unfold writeW
  rw [if_neg b1, if_neg b2, if_neg b3, if_neg b4, if_neg b5, if_neg hc]
theorem step770 {f w : VS} (h : Rel f w) (x : Nat) (hx : U x) : Rel (writeW f 770 x) (rwriteW w 770 x) := by
  rw [wr_row f x ⟨by decide, by decide, by decide, by decide, by decide⟩ (by decide), rw_row (a := 3) (k := 46079) w x ⟨by decide, by decide, by decide, by decide, by decide⟩ row770 (by decide), show placeW 770 = perm 3 from by decide, if_neg (show ¬ perm 3 = 0 from by decide)]
  rw [show legalW 770 (f.r (perm 3)) x = x &&& 46079 from rfl, if_neg (show ¬ ((3 = 6 ∨ 3 = 12) ∧ _) from fun q => absurd q.1 (by decide)), if_neg (show ¬ (3 = 18 ∧ _) from fun q => absurd q.1 (by decide))]
  exact h.set 3 (by decide) _
theorem step771 {f w : VS} (h : Rel f w) (x : Nat) (hx : U x) : Rel (writeW f 771 x) (rwriteW w 771 x) := by
  rw [wr_row f x ⟨by decide, by decide, by decide, by decide, by decide⟩ (by decide), rw_row (a := 4) (k := 546) w x ⟨by decide, by decide, by decide, by decide, by decide⟩ row771 (by decide), show placeW 771 = perm 4 from by decide, if_neg (show ¬ perm 4 = 0 from by decide)]
  rw [show legalW 771 (f.r (perm 4)) x = x &&& 546 from rfl, if_neg (show ¬ ((4 = 6 ∨ 4 = 12) ∧ _) from fun q => absurd q.1 (by decide)), if_neg (show ¬ (4 = 18 ∧ _) from fun q => absurd q.1 (by decide))]
  exact h.set 4 (by decide) _
theorem step772 {f w : VS} (h : Rel f w) (x : Nat) (hx : U x) : Rel (writeW f 772 x) (rwriteW w 772 x) := by
  rw [wr_row f x ⟨by decide, by decide, by decide, by decide, by decide⟩ (by decide), rw_row (a := 5) (k := 2730) w x ⟨by decide, by decide, by decide, by decide, by decide⟩ row772 (by decide), show placeW 772 = perm 5 from by decide, if_neg (show ¬ perm 5 = 0 from by decide)]
  rw [show legalW 772 (f.r (perm 5)) x = x &&& 2730 from rfl, if_neg (show ¬ ((5 = 6 ∨ 5 = 12) ∧ _) from fun q => absurd q.1 (by decide)), if_neg (show ¬ (5 = 18 ∧ _) from fun q => absurd q.1 (by decide))]
  exact h.set 5 (by decide) _
theorem step773 {f w : VS} (h : Rel f w) (x : Nat) (hx : U x) : Rel (writeW f 773 x) (rwriteW w 773 x) := by
  rw [wr_row f x ⟨by decide, by decide, by decide, by decide, by decide⟩ (by decide), rw_row (a := 6) (k := 18446744073709551615) w x ⟨by decide, by decide, by decide, by decide, by decide⟩ row773 (by decide), show placeW 773 = perm 6 from by decide, if_neg (show ¬ perm 6 = 0 from by decide)]
  have hl : legalW 773 (f.r (perm 6)) x = if x &&& 2 = 0 then x else f.r (perm 6) := rfl
  rw [hl]
  by_cases hb : getW x 1 1 = 1
  · rw [if_neg (show ¬ x &&& 2 = 0 from fun q => (bit1 x).1 q hb), if_pos (show (6 = 6 ∨ 6 = 12) ∧ getW x 1 1 = 1 from ⟨by decide, hb⟩)]
    rw [VS.set_self]; exact h
  · rw [if_pos ((bit1 x).2 hb), if_neg (show ¬ ((6 = 6 ∨ 6 = 12) ∧ getW x 1 1 = 1) from fun q => hb q.2), if_neg (show ¬ (6 = 18 ∧ _) from fun q => absurd q.1 (by decide)), and_all hx]
    exact h.set 6 (by decide) x
theorem step261 {f w : VS} (h : Rel f w) (x : Nat) (hx : U x) : Rel (writeW f 261 x) (rwriteW w 261 x) := by
  rw [wr_row f x ⟨by decide, by decide, by decide, by decide, by decide⟩ (by decide), rw_row (a := 12) (k := 18446744073709551615) w x ⟨by decide, by decide, by decide, by decide, by decide⟩ row261 (by decide), show placeW 261 = perm 12 from by decide, if_neg (show ¬ perm 12 = 0 from by decide)]
  have hl : legalW 261 (f.r (perm 12)) x = if x &&& 2 = 0 then x else f.r (perm 12) := rfl
  rw [hl]
  by_cases hb : getW x 1 1 = 1
  · rw [if_neg (show ¬ x &&& 2 = 0 from fun q => (bit1 x).1 q hb), if_pos (show (12 = 6 ∨ 12 = 12) ∧ getW x 1 1 = 1 from ⟨by decide, hb⟩)]
    rw [VS.set_self]; exact h
  · rw [if_pos ((bit1 x).2 hb), if_neg (show ¬ ((12 = 6 ∨ 12 = 12) ∧ getW x 1 1 = 1) from fun q => hb q.2), if_neg (show ¬ (12 = 18 ∧ _) from fun q => absurd q.1 (by decide)), and_all hx]
    exact h.set 12 (by decide) x
theorem step774 {f w : VS} (h : Rel f w) (x : Nat) (hx : U x) : Rel (writeW f 774 x) (rwriteW w 774 x) := by
  rw [wr_row f x ⟨by decide, by decide, by decide, by decide, by decide⟩ (by decide), rw_row (a := 7) (k := 7) w x ⟨by decide, by decide, by decide, by decide, by decide⟩ row774 (by decide), show placeW 774 = perm 7 from by decide, if_neg (show ¬ perm 7 = 0 from by decide)]
  rw [show legalW 774 (f.r (perm 7)) x = x &&& 7 from rfl, if_neg (show ¬ ((7 = 6 ∨ 7 = 12) ∧ _) from fun q => absurd q.1 (by decide)), if_neg (show ¬ (7 = 18 ∧ _) from fun q => absurd q.1 (by decide))]
  exact h.set 7 (by decide) _
theorem step262 {f w : VS} (h : Rel f w) (x : Nat) (hx : U x) : Rel (writeW f 262 x) (rwriteW w 262 x) := by
  rw [wr_row f x ⟨by decide, by decide, by decide, by decide, by decide⟩ (by decide), rw_row (a := 13) (k := 7) w x ⟨by decide, by decide, by decide, by decide, by decide⟩ row262 (by decide), show placeW 262 = perm 13 from by decide, if_neg (show ¬ perm 13 = 0 from by decide)]
  rw [show legalW 262 (f.r (perm 13)) x = x &&& 7 from rfl, if_neg (show ¬ ((13 = 6 ∨ 13 = 12) ∧ _) from fun q => absurd q.1 (by decide)), if_neg (show ¬ (13 = 18 ∧ _) from fun q => absurd q.1 (by decide))]
  exact h.set 13 (by decide) _
theorem step832 {f w : VS} (h : Rel f w) (x : Nat) (hx : U x) : Rel (writeW f 832 x) (rwriteW w 832 x) := by
  rw [wr_row f x ⟨by decide, by decide, by decide, by decide, by decide⟩ (by decide), rw_row (a := 8) (k := 18446744073709551615) w x ⟨by decide, by decide, by decide, by decide, by decide⟩ row832 (by decide), show placeW 832 = perm 8 from by decide, if_neg (show ¬ perm 8 = 0 from by decide)]
  rw [show legalW 832 (f.r (perm 8)) x = x from rfl, if_neg (show ¬ ((8 = 6 ∨ 8 = 12) ∧ _) from fun q => absurd q.1 (by decide)), if_neg (show ¬ (8 = 18 ∧ _) from fun q => absurd q.1 (by decide)), and_all hx]
  exact h.set 8 (by decide) _
theorem step320 {f w : VS} (h : Rel f w) (x : Nat) (hx : U x) : Rel (writeW f 320 x) (rwriteW w 320 x) := by
  rw [wr_row f x ⟨by decide, by decide, by decide, by decide, by decide⟩ (by decide), rw_row (a := 14) (k := 18446744073709551615) w x ⟨by decide, by decide, by decide, by decide, by decide⟩ row320 (by decide), show placeW 320 = perm 14 from by decide, if_neg (show ¬ perm 14 = 0 from by decide)]
  rw [show legalW 320 (f.r (perm 14)) x = x from rfl, if_neg (show ¬ ((14 = 6 ∨ 14 = 12) ∧ _) from fun q => absurd q.1 (by decide)), if_neg (show ¬ (14 = 18 ∧ _) from fun q => absurd q.1 (by decide)), and_all hx]
  exact h.set 14 (by decide) _
theorem step834 {f w : VS} (h : Rel f w) (x : Nat) (hx : U x) : Rel (writeW f 834 x) (rwriteW w 834 x) := by
  rw [wr_row f x ⟨by decide, by decide, by decide, by decide, by decide⟩ (by decide), rw_row (a := 10) (k := 18446744073709551615) w x ⟨by decide, by decide, by decide, by decide, by decide⟩ row834 (by decide), show placeW 834 = perm 10 from by decide, if_neg (show ¬ perm 10 = 0 from by decide)]
  rw [show legalW 834 (f.r (perm 10)) x = x from rfl, if_neg (show ¬ ((10 = 6 ∨ 10 = 12) ∧ _) from fun q => absurd q.1 (by decide)), if_neg (show ¬ (10 = 18 ∧ _) from fun q => absurd q.1 (by decide)), and_all hx]
  exact h.set 10 (by decide) _
theorem step322 {f w : VS} (h : Rel f w) (x : Nat) (hx : U x) : Rel (writeW f 322 x) (rwriteW w 322 x) := by
  rw [wr_row f x ⟨by decide, by decide, by decide, by decide, by decide⟩ (by decide), rw_row (a := 16) (k := 18446744073709551615) w x ⟨by decide, by decide, by decide, by decide, by decide⟩ row322 (by decide), show placeW 322 = perm 16 from by decide, if_neg (show ¬ perm 16 = 0 from by decide)]
  rw [show legalW 322 (f.r (perm 16)) x = x from rfl, if_neg (show ¬ ((16 = 6 ∨ 16 = 12) ∧ _) from fun q => absurd q.1 (by decide)), if_neg (show ¬ (16 = 18 ∧ _) from fun q => absurd q.1 (by decide)), and_all hx]
  exact h.set 16 (by decide) _
theorem step835 {f w : VS} (h : Rel f w) (x : Nat) (hx : U x) : Rel (writeW f 835 x) (rwriteW w 835 x) := by
  rw [wr_row f x ⟨by decide, by decide, by decide, by decide, by decide⟩ (by decide), rw_row (a := 11) (k := 18446744073709551615) w x ⟨by decide, by decide, by decide, by decide, by decide⟩ row835 (by decide), show placeW 835 = perm 11 from by decide, if_neg (show ¬ perm 11 = 0 from by decide)]
  rw [show legalW 835 (f.r (perm 11)) x = x from rfl, if_neg (show ¬ ((11 = 6 ∨ 11 = 12) ∧ _) from fun q => absurd q.1 (by decide)), if_neg (show ¬ (11 = 18 ∧ _) from fun q => absurd q.1 (by decide)), and_all hx]
  exact h.set 11 (by decide) _
theorem step323 {f w : VS} (h : Rel f w) (x : Nat) (hx : U x) : Rel (writeW f 323 x) (rwriteW w 323 x) := by
  rw [wr_row f x ⟨by decide, by decide, by decide, by decide, by decide⟩ (by decide), rw_row (a := 17) (k := 18446744073709551615) w x ⟨by decide, by decide, by decide, by decide, by decide⟩ row323 (by decide), show placeW 323 = perm 17 from by decide, if_neg (show ¬ perm 17 = 0 from by decide)]
  rw [show legalW 323 (f.r (perm 17)) x = x from rfl, if_neg (show ¬ ((17 = 6 ∨ 17 = 12) ∧ _) from fun q => absurd q.1 (by decide)), if_neg (show ¬ (17 = 18 ∧ _) from fun q => absurd q.1 (by decide)), and_all hx]
  exact h.set 17 (by decide) _
theorem step2816 {f w : VS} (h : Rel f w) (x : Nat) (hx : U x) : Rel (writeW f 2816 x) (rwriteW w 2816 x) := by
  rw [wr_row f x ⟨by decide, by decide, by decide, by decide, by decide⟩ (by decide), rw_row (a := 19) (k := 18446744073709551615) w x ⟨by decide, by decide, by decide, by decide, by decide⟩ row2816 (by decide), show placeW 2816 = perm 19 from by decide, if_neg (show ¬ perm 19 = 0 from by decide)]
  rw [show legalW 2816 (f.r (perm 19)) x = x from rfl, if_neg (show ¬ ((19 = 6 ∨ 19 = 12) ∧ _) from fun q => absurd q.1 (by decide)), if_neg (show ¬ (19 = 18 ∧ _) from fun q => absurd q.1 (by decide)), and_all hx]
  exact h.set 19 (by decide) _
theorem step2818 {f w : VS} (h : Rel f w) (x : Nat) (hx : U x) : Rel (writeW f 2818 x) (rwriteW w 2818 x) := by
  rw [wr_row f x ⟨by decide, by decide, by decide, by decide, by decide⟩ (by decide), rw_row (a := 20) (k := 18446744073709551615) w x ⟨by decide, by decide, by decide, by decide, by decide⟩ row2818 (by decide), show placeW 2818 = perm 20 from by decide, if_neg (show ¬ perm 20 = 0 from by decide)]
  rw [show legalW 2818 (f.r (perm 20)) x = x from rfl, if_neg (show ¬ ((20 = 6 ∨ 20 = 12) ∧ _) from fun q => absurd q.1 (by decide)), if_neg (show ¬ (20 = 18 ∧ _) from fun q => absurd q.1 (by decide)), and_all hx]
  exact h.set 20 (by decide) _
theorem step833 {f w : VS} (h : Rel f w) (x : Nat) (hx : U x) : Rel (writeW f 833 x) (rwriteW w 833 x) := by
  rw [wr_row f x ⟨by decide, by decide, by decide, by decide, by decide⟩ (by decide), rw_row (a := 9) (k := 18446744073709551612) w x ⟨by decide, by decide, by decide, by decide, by decide⟩ row833 (by decide), show placeW 833 = perm 9 from by decide, if_neg (show ¬ perm 9 = 0 from by decide)]
  rw [show legalW 833 (f.r (perm 9)) x = minus x 3 from rfl, if_neg (show ¬ ((9 = 6 ∨ 9 = 12) ∧ _) from fun q => absurd q.1 (by decide)), if_neg (show ¬ (9 = 18 ∧ _) from fun q => absurd q.1 (by decide))]
  exact h.set 9 (by decide) _
theorem step321 {f w : VS} (h : Rel f w) (x : Nat) (hx : U x) : Rel (writeW f 321 x) (rwriteW w 321 x) := by
  rw [wr_row f x ⟨by decide, by decide, by decide, by decide, by decide⟩ (by decide), rw_row (a := 15) (k := 18446744073709551612) w x ⟨by decide, by decide, by decide, by decide, by decide⟩ row321 (by decide), show placeW 321 = perm 15 from by decide, if_neg (show ¬ perm 15 = 0 from by decide)]
  rw [show legalW 321 (f.r (perm 15)) x = minus x 3 from rfl, if_neg (show ¬ ((15 = 6 ∨ 15 = 12) ∧ _) from fun q => absurd q.1 (by decide)), if_neg (show ¬ (15 = 18 ∧ _) from fun q => absurd q.1 (by decide))]
  exact h.set 15 (by decide) _
theorem step384 {f w : VS} (h : Rel f w) (x : Nat) (hx : U x) : Rel (writeW f 384 x) (rwriteW w 384 x) := by
  rw [wr_row f x ⟨by decide, by decide, by decide, by decide, by decide⟩ (by decide), rw_row (a := 18) (k := 18446744073709551615) w x ⟨by decide, by decide, by decide, by decide, by decide⟩ row384 (by decide), show placeW 384 = perm 18 from by decide, if_neg (show ¬ perm 18 = 0 from by decide)]
  have hl : legalW 384 (f.r (perm 18)) x = if getW x 60 4 = 0 ∨ getW x 60 4 = 8 then x else f.r (perm 18) := rfl
  rw [hl, if_neg (show ¬ ((18 = 6 ∨ 18 = 12) ∧ _) from fun q => absurd q.1 (by decide))]
  by_cases hb : getW x 60 4 = 0 ∨ getW x 60 4 = 8
  · rw [if_pos hb, if_neg (fun q => by rcases hb with e | e; exact q.2.1 e; exact q.2.2 e), and_all hx]
    exact h.set 18 (by decide) x
  · rw [if_neg hb, if_pos ⟨rfl, fun e => hb (.inl e), fun e => hb (.inr e)⟩]
    rw [VS.set_self]; exact h
theorem mix_one (h : U 8264106) : True := trivial
theorem Rel.write {f w : VS} (h : Rel f w) (n : Int) (x : Nat) (hx : U x) : Rel (writeW f n x) (rwriteW w n x) := by
  by_cases h1 : n = 768
  · subst h1
    unfold writeW rwriteW statusW
    rw [if_pos rfl, if_pos rfl]
    have e0 : f.r 1 = w.r 1 := h.r 0 (by decide)
    by_cases hg : getW x 11 2 = 2
    · rw [if_pos hg, if_pos hg, e0]
      exact h.set 0 (by decide) _
    · rw [if_neg hg, if_neg hg, e0]
      exact h.set 0 (by decide) _
  by_cases h2 : n = 256
  · subst h2
    have e0 : f.r 1 = w.r 1 := h.r 0 (by decide)
    have e1 : writeW f 256 x = statusW f x 786722 := rfl
    have e2 : rwriteW w 256 x = w.set 1 (mixW (w.r 1) x 786722) := rfl
    rw [e1, e2]
    unfold statusW
    have key : getW x 11 2 = 2 → minus 786722 6144 = 786722 := fun _ => by decide
    by_cases hg : getW x 11 2 = 2
    · rw [if_pos hg, key hg, e0]
      exact h.set 0 (by decide) _
    · rw [if_neg hg, e0]
      exact h.set 0 (by decide) _
  by_cases h3 : n = 836
  · subst h3
    exact h.set 1 (by decide) _
  by_cases h4 : n = 324
  · subst h4
    have e1 : f.r 5 = w.r 2 := h.r 1 (by decide)
    have e2 : f.r 3 = w.r 5 := h.r 4 (by decide)
    have e3 : writeW f 324 x = f.set 5 (minus (f.r 5) (f.r 3 &&& 2) ||| (x &&& (f.r 3 &&& 2))) := rfl
    have e4 : rwriteW w 324 x = w.set 2 (mixW (w.r 2) x (w.r 5 &&& 2)) := rfl
    rw [e3, e4, e1, e2]
    exact h.set 1 (by decide) _
  by_cases h5 : n = 260
  · subst h5
    have e1 : f.r 4 = w.r 6 := h.r 5 (by decide)
    have e2 : f.r 3 = w.r 5 := h.r 4 (by decide)
    have e3 : writeW f 260 x = f.set 4 (minus (f.r 4) (f.r 3) ||| (x &&& f.r 3)) := rfl
    have e4 : rwriteW w 260 x = w.set 6 (mixW (w.r 6) x (w.r 5)) := rfl
    rw [e3, e4, e1, e2]
    exact h.set 5 (by decide) _
  have hn : NotFive n := ⟨beq_no h1, beq_no h2, beq_no h3, beq_no h4, beq_no h5⟩
  by_cases hc : n = 3072 ∨ n = 3073 ∨ n = 3074
  · have e1 : writeW f n x = f := by unfold writeW; rw [if_neg h1, if_neg h2, if_neg h3, if_neg h4, if_neg h5, if_pos hc]
    have e2 : rwriteW w n x = w := rw_no w x hn (by rcases hc with rfl | rfl | rfl; rw [row3072]; simp; rw [row3073]; simp; rw [row3074]; simp)
    rw [e1, e2]; exact h
  by_cases c770 : n = 770
  · subst c770; exact step770 h x hx
  by_cases c771 : n = 771
  · subst c771; exact step771 h x hx
  by_cases c772 : n = 772
  · subst c772; exact step772 h x hx
  by_cases c773 : n = 773
  · subst c773; exact step773 h x hx
  by_cases c261 : n = 261
  · subst c261; exact step261 h x hx
  by_cases c774 : n = 774
  · subst c774; exact step774 h x hx
  by_cases c262 : n = 262
  · subst c262; exact step262 h x hx
  by_cases c832 : n = 832
  · subst c832; exact step832 h x hx
  by_cases c320 : n = 320
  · subst c320; exact step320 h x hx
  by_cases c834 : n = 834
  · subst c834; exact step834 h x hx
  by_cases c322 : n = 322
  · subst c322; exact step322 h x hx
  by_cases c835 : n = 835
  · subst c835; exact step835 h x hx
  by_cases c323 : n = 323
  · subst c323; exact step323 h x hx
  by_cases c2816 : n = 2816
  · subst c2816; exact step2816 h x hx
  by_cases c2818 : n = 2818
  · subst c2818; exact step2818 h x hx
  by_cases c833 : n = 833
  · subst c833; exact step833 h x hx
  by_cases c321 : n = 321
  · subst c321; exact step321 h x hx
  by_cases c384 : n = 384
  · subst c384; exact step384 h x hx
  have hp : placeW n = 0 := by
    simp only [not_or] at hc
    unfold placeW superW
    simp [hc, c770, c771, c772, c773, c261, c774, c262, c832, c320, c834, c322, c835, c323, c2816, c2818, c833, c321, c384]
  have e1 : writeW f n x = f := by rw [wr_row f x hn hc, if_pos hp]
  have e2 : rwriteW w n x = w := by
    apply rw_no w x hn
    by_cases hi : n ∈ nums
    · simp only [nums, List.mem_cons, List.not_mem_nil, or_false] at hi
      simp only [not_or] at hc
      simp only [h1, h2, h3, h4, h5, hc, c770, c771, c772, c773, c261, c774, c262, c832, c320, c834, c322, c835, c323, c2816, c2818, c833, c321, c384, false_or, or_false] at hi
      rcases hi with rfl | rfl | rfl | rfl | rfl
      · rw [row769]; simp
      · rw [row3857]; simp
      · rw [row3858]; simp
      · rw [row3859]; simp
      · rw [row3860]; simp
    · exact .inl (ofR_no hi)
  rw [e1, e2]; exact h
theorem Rel.fold {xs : List WR} (hx : wrOk xs) : ∀ k, Rel (foldF xs k) (foldR xs k)
  | 0 => Rel.vs0
  | k + 1 => (Rel.fold hx k).write _ _ (wrOk_at hx k).2
theorem Rel.bg {xs : List WR} (hx : wrOk xs) (m : Int) (l : Nat) : Rel (bgF m xs l) (bgR m xs l) := ((Rel.fold hx _).set 2 (by decide) _).mode m
end Go.Proofs.Ytkbnoeebnmphbaa.H
