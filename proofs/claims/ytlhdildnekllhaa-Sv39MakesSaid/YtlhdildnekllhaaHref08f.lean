/- The document's answer for the registers (vireoref08), walked by hand: any write. -/
import Derived.Test.YtlhdildnekllhaaHref08e
namespace Go.Proofs.Ytlhdildnekllhaa.H
open Go.RowKit Go.Proofs.YtlhdildnekllhaaW.PrintWords Go.Proofs.YtlhdildnekllhaaW.PrintLast Go.Proofs.Ytlhdildnekllhaa.PAl Go.Proofs.Ytlhdildnekllhaa.Pure Go.Proofs.Ytlhdildnekllhaa.Vw
set_option linter.unusedVariables false
set_option linter.unusedSimpArgs false
theorem rows_fine : ∀ y ∈ rowsL, y.f2 ≤ 21 ∧ 0 ≤ y.f3 ∧ y.f3 < 18446744073709551616 := by decide +kernel
theorem ofR_fine (n : Int) (h : (ofR n).2.2.2.2 = true) : (ofR n).2.2.1 ≤ 21 ∧ 0 ≤ (ofR n).2.2.2.1 ∧ (ofR n).2.2.2.1 < 18446744073709551616 := by
  unfold ofR findR at *
  cases hf : rowsL.find? (fun x => decide (x.f0 = n)) with
  | none => rw [hf] at h; simp at h
  | some y => exact rows_fine y (List.mem_of_find?_eq_some hf)
theorem rwrite_c (s : VS) (n : Int) (x : Nat) (w : World) (hs : s.ok) (hx : U x) :
    Calls Try.prog 43 #[.agg s.cells, .int .i64 n, .int .u64 (x : Int)] w fun e w' => e = .returned (.agg (rwriteW s n x).cells) ∧ KpN w w' := by
  by_cases h1 : n = 768
  · subst h1
    by_cases hg : getW x 11 2 = 2
    · have : rwriteW s 768 x = s.set 1 (mixW (s.r 1) x 8257962) := by unfold rwriteW; rw [if_pos rfl, if_pos hg]
      rw [this]; exact rwrite_c1a s x w hs hx hg
    · have : rwriteW s 768 x = s.set 1 (mixW (s.r 1) x 8264106) := by unfold rwriteW; rw [if_pos rfl, if_neg hg]
      rw [this]; exact rwrite_c1b s x w hs hx hg
  by_cases h2 : n = 256
  · subst h2; exact rwrite_c2 s x w hs hx
  by_cases h3 : n = 836
  · subst h3; exact rwrite_c3 s x w hs hx
  by_cases h4 : n = 324
  · subst h4; exact rwrite_c4 s x w hs hx
  by_cases h5 : n = 260
  · subst h5; exact rwrite_c5 s x w hs hx
  have hn : NotFive n := ⟨beq_no h1, beq_no h2, beq_no h3, beq_no h4, beq_no h5⟩
  obtain ⟨n0, nm, a, m, ok, hof⟩ : ∃ n0 nm a m ok, ofR n = (n0, nm, a, m, ok) := ⟨_, _, _, _, _, rfl⟩
  have hfine := ofR_fine n
  have hgo : rwriteW s n x = if ok = false ∨ a < 0 ∨ m = 0 then s else if (a = 6 ∨ a = 12) ∧ getW x 1 1 = 1 then s else if a = 18 ∧ getW x 60 4 ≠ 0 ∧ getW x 60 4 ≠ 8 then s else s.set (a.toNat + 1) (x &&& m.toNat) := by
    unfold rwriteW
    rw [if_neg h1, if_neg h2, if_neg h3, if_neg h4, if_neg h5, hof]
  rw [hof] at hfine
  dsimp only at hfine
  rw [hgo]
  clear hgo
  cases ok with
  | false => rw [if_pos (.inl rfl)]; exact rwrite_A s n x n0 nm a m w hs hx hn hof
  | true =>
    obtain ⟨ha2, hm0, hm1⟩ := hfine rfl
    by_cases ha : a < 0
    · rw [if_pos (.inr (.inl ha))]; exact rwrite_B s n x n0 nm a m ha w hs hx hn hof
    by_cases hm : m = 0
    · rw [if_pos (.inr (.inr hm))]; subst hm; exact rwrite_C s n x n0 nm a ha w hs hx hn hof
    rw [if_neg (by rintro (h | h | h); cases h; exact ha h; exact hm h)]
    obtain ⟨M, rfl⟩ : ∃ M : Nat, m = M := ⟨m.toNat, by omega⟩
    have hM : M ≠ 0 := by omega
    have hU : U M := ⟨by omega⟩
    rw [Int.toNat_natCast]
    by_cases c6 : a = 6
    · subst c6
      by_cases hg : getW x 1 1 = 1
      · rw [if_pos ⟨.inl rfl, hg⟩]; exact rwrite_D6 s n x n0 nm M hM hU hg w hs hx hn hof
      · rw [if_neg (fun h => hg h.2), if_neg (fun h => absurd h.1 (by decide))]; exact rwrite_F6 s n x n0 nm M hM hU hg w hs hx hn hof
    by_cases c12 : a = 12
    · subst c12
      by_cases hg : getW x 1 1 = 1
      · rw [if_pos ⟨.inr rfl, hg⟩]; exact rwrite_D12 s n x n0 nm M hM hU hg w hs hx hn hof
      · rw [if_neg (fun h => hg h.2), if_neg (fun h => absurd h.1 (by decide))]; exact rwrite_F12 s n x n0 nm M hM hU hg w hs hx hn hof
    rw [if_neg (fun h => by rcases h.1 with h | h; exact c6 h; exact c12 h)]
    by_cases c18 : a = 18
    · subst c18
      by_cases h0 : getW x 60 4 = 0
      · rw [if_neg (fun h => h.2.1 h0)]; exact rwrite_F18a s n x n0 nm M hM hU h0 w hs hx hn hof
      by_cases h8 : getW x 60 4 = 8
      · rw [if_neg (fun h => h.2.2 h8)]; exact rwrite_F18b s n x n0 nm M hM hU h8 w hs hx hn hof
      · rw [if_pos ⟨rfl, h0, h8⟩]; exact rwrite_E s n x n0 nm M hM hU h0 h8 w hs hx hn hof
    · rw [if_neg (fun h => c18 h.1)]
      obtain ⟨j, rfl⟩ : ∃ j : Nat, a = j := ⟨a.toNat, by omega⟩
      rw [Int.toNat_natCast, Nat.add_comm j 1]
      exact rwrite_G s n x n0 nm j (by omega) (by omega) (by omega) (by omega) M hM hU w hs hx hn hof
theorem rwriteW_ok {s : VS} (h : s.ok) (n : Int) {x : Nat} (hx : U x) : (rwriteW s n x).ok := by
  unfold rwriteW
  repeat' split
  all_goals first | exact h | exact VS.set_ok h _ (mixW_ok (h _) hx) | exact VS.set_ok h _ hx.and
end Go.Proofs.Ytlhdildnekllhaa.H
