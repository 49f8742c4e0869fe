/- Which registers a program may read and write: code and document agree (CsrMay), walked by hand. -/
import Derived.Test.YtkbnoeebnmphbaaHmay2
namespace Go.Proofs.Ytkbnoeebnmphbaa.H
open Go.RowKit Go.Proofs.YtkbnoeebnmphbaaW.PrintWords Go.Proofs.YtkbnoeebnmphbaaW.PrintLast Go.Proofs.Ytkbnoeebnmphbaa.PAl Go.Proofs.Ytkbnoeebnmphbaa.Pure Go.Proofs.Ytkbnoeebnmphbaa.Vw
set_option linter.unusedVariables false
set_option linter.unusedSimpArgs false
theorem rmay_c (s : VS) (n : Int) (wr : Bool) (w : World) (hs : s.ok) :
    Calls Try.prog 24 #[.agg s.cells, .int .i64 n, .bool wr] w fun e w' => e = .returned (.bool (mayW s n wr)) ∧ KpN w w' := by
  obtain ⟨q0, nm, q2, q3, hof⟩ : ∃ q0 nm q2 q3, ofR n = (q0, nm, q2, q3, knownW n) := ⟨_, _, _, _, by rw [← known_of n]⟩
  by_cases hk2 : knownW n = false
  · have : mayW s n wr = false := by unfold mayW; rw [hk2]; rfl
    rw [this]; rw [hk2] at hof; exact rmay_N s n wr w q0 nm q2 q3 hof
  have hk : knownW n = true := by simpa using hk2
  obtain ⟨eb, n0, n1⟩ := bits_nums n (known_nums hk)
  have e4 : n / 1024 % 4 = n / 1024 := by omega
  rw [hk] at hof
  have M : mayW s n wr = (!(wr && (n / 1024 == 3)) && !decide (s.m < n / 256 % 4) && !((n == 384) && (s.m == 1) && bitW (s.r 1) 20) && (if 3072 ≤ n ∧ n ≤ 3074 then counterW s n else true)) := by unfold mayW; rw [hk]; simp
  rw [M]; clear M
  unfold counterW
  by_cases hw : wr = true ∧ n / 1024 = 3
  · have h10 : (n / 1024 == 3) = true := beq_iff_eq.2 hw.2
    rw [hw.1, h10]; exact rmay_A s n w hs q0 nm q2 q3 hof n0 e4 h10
  have hwr : wr = false ∨ (wr = true ∧ (n / 1024 == 3) = false) := by
    cases wr
    · exact .inl rfl
    · exact .inr ⟨rfl, beq_eq_false_iff_ne.2 fun e => hw ⟨rfl, e⟩⟩
  have hpre : (!(wr && (n / 1024 == 3))) = true := by
    rcases hwr with h | ⟨h, h'⟩
    · rw [h]; rfl
    · rw [h, h']; rfl
  rw [hpre]; clear hpre hw
  by_cases hq : s.m < n / 256 % 4
  · have hq' : decide (s.m < n / 256 % 4) = true := decide_eq_true hq
    rw [hq']
    rcases hwr with rfl | ⟨rfl, h10⟩
    · exact rmay_B0 s n w hs q0 nm q2 q3 hof n0 e4 hq'
    · exact rmay_B1 s n w hs q0 nm q2 q3 hof n0 e4 h10 hq'
  have hq' : decide (s.m < n / 256 % 4) = false := decide_eq_false hq
  rw [hq']
  by_cases h4 : n = 384
  · have hs4 : (n == 384) = true := beq_iff_eq.2 h4
    have hlo : decide (n < 3072) = true := decide_eq_true (by omega)
    have hin : ¬ (3072 ≤ n ∧ n ≤ 3074) := by omega
    rw [hs4, if_neg hin]
    by_cases hm1 : s.m = 1
    · have hm1' : (s.m == 1) = true := beq_iff_eq.2 hm1
      rw [hm1']
      cases hb : bitW (s.r 1) 20 with
      | true =>
        rcases hwr with rfl | ⟨rfl, h10⟩
        · exact rmay_C0 s n w hs q0 nm q2 q3 hof n0 e4 hq' hs4 hm1' hb
        · exact rmay_C1 s n w hs q0 nm q2 q3 hof n0 e4 h10 hq' hs4 hm1' hb
      | false =>
        rcases hwr with rfl | ⟨rfl, h10⟩
        · exact rmay_D0 s n w hs q0 nm q2 q3 hof n0 e4 hq' hs4 hm1' hb hlo
        · exact rmay_D1 s n w hs q0 nm q2 q3 hof n0 e4 h10 hq' hs4 hm1' hb hlo
    · have hm1' : (s.m == 1) = false := beq_eq_false_iff_ne.2 hm1
      rw [hm1']
      rcases hwr with rfl | ⟨rfl, h10⟩
      · exact rmay_E0 s n w hs q0 nm q2 q3 hof n0 e4 hq' hs4 hm1' hlo
      · exact rmay_E1 s n w hs q0 nm q2 q3 hof n0 e4 h10 hq' hs4 hm1' hlo
  have hs4 : (n == 384) = false := beq_eq_false_iff_ne.2 h4
  rw [hs4]
  by_cases hlo0 : n < 3072
  · have hlo : decide (n < 3072) = true := decide_eq_true hlo0
    rw [if_neg (by omega)]
    rcases hwr with rfl | ⟨rfl, h10⟩
    · exact rmay_F0 s n w hs q0 nm q2 q3 hof n0 e4 hq' hs4 hlo
    · exact rmay_F1 s n w hs q0 nm q2 q3 hof n0 e4 h10 hq' hs4 hlo
  have hlo : decide (n < 3072) = false := decide_eq_false hlo0
  by_cases hhi0 : 3074 < n
  · have hhi : decide (3074 < n) = true := decide_eq_true hhi0
    rw [if_neg (by omega)]
    rcases hwr with rfl | ⟨rfl, h10⟩
    · exact rmay_G0 s n w hs q0 nm q2 q3 hof n0 e4 hq' hs4 hlo hhi
    · exact rmay_G1 s n w hs q0 nm q2 q3 hof n0 e4 h10 hq' hs4 hlo hhi
  have hhi : decide (3074 < n) = false := decide_eq_false hhi0
  have en : n % 4 = n - 3072 := by omega
  rw [if_pos (by omega), ← en]
  by_cases h30 : s.m < 3
  · have h3 : decide (s.m < 3) = true := decide_eq_true h30
    rw [h3]
    cases h8 : bitW (s.r 8) (n % 4) with
    | false =>
      rcases hwr with rfl | ⟨rfl, h10⟩
      · exact rmay_H0 s n w hs q0 nm q2 q3 hof n0 e4 hq' hs4 hlo hhi h3 h8
      · exact rmay_H1 s n w hs q0 nm q2 q3 hof n0 e4 h10 hq' hs4 hlo hhi h3 h8
    | true =>
      by_cases hz0 : s.m = 0
      · have hz : (s.m != 0) = false := by rw [hz0]; rfl
        have hz1 : (s.m == 0) = true := beq_iff_eq.2 hz0
        rw [hz1]
        rcases hwr with rfl | ⟨rfl, h10⟩
        · have := rmay_J0 s n w hs q0 nm q2 q3 hof n0 e4 hq' hs4 hlo hhi h3 h8 hz
          cases h14 : bitW (s.r 14) (n % 4) <;> (rw [h14] at this; exact this)
        · have := rmay_J1 s n w hs q0 nm q2 q3 hof n0 e4 h10 hq' hs4 hlo hhi h3 h8 hz
          cases h14 : bitW (s.r 14) (n % 4) <;> (rw [h14] at this; exact this)
      · have hz : (s.m != 0) = true := bne_iff_ne.2 hz0
        have hz1 : (s.m == 0) = false := beq_eq_false_iff_ne.2 hz0
        rw [hz1]
        rcases hwr with rfl | ⟨rfl, h10⟩
        · exact rmay_I0 s n w hs q0 nm q2 q3 hof n0 e4 hq' hs4 hlo hhi h3 h8 hz
        · exact rmay_I1 s n w hs q0 nm q2 q3 hof n0 e4 h10 hq' hs4 hlo hhi h3 h8 hz
  · have h3 : decide (s.m < 3) = false := decide_eq_false h30
    have hz : (s.m != 0) = true := bne_iff_ne.2 (by omega)
    have hz1 : (s.m == 0) = false := beq_eq_false_iff_ne.2 (by omega)
    rw [h3, hz1]
    rcases hwr with rfl | ⟨rfl, h10⟩
    · exact rmay_K0 s n w hs q0 nm q2 q3 hof n0 e4 hq' hs4 hlo hhi h3 hz
    · exact rmay_K1 s n w hs q0 nm q2 q3 hof n0 e4 h10 hq' hs4 hlo hhi h3 hz
theorem may_rel {S R : VS} (h : Rel S R) (n : Int) (wr : Bool) : mayW S n wr = mayW R n wr := by
  have e1 : S.r 1 = R.r 1 := h.r 0 (by decide)
  have e8 : S.r 8 = R.r 8 := h.r 7 (by decide)
  have e14 : S.r 14 = R.r 14 := h.r 13 (by decide)
  unfold mayW counterW
  rw [h.m, e1, e8, e14]
end Go.Proofs.Ytkbnoeebnmphbaa.H
