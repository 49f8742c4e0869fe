/- The document's answer for the registers (vireoref08), walked by hand: its writes. -/
import Derived.Test.YtlhdildnekllhaaHref08
namespace Go.Proofs.Ytlhdildnekllhaa.H
open Go.RowKit Go.Proofs.YtlhdildnekllhaaW.PrintWords Go.Proofs.YtlhdildnekllhaaW.PrintLast Go.Proofs.Ytlhdildnekllhaa.PAl Go.Proofs.Ytlhdildnekllhaa.Pure Go.Proofs.Ytlhdildnekllhaa.Vw
set_option linter.unusedVariables false
set_option linter.unusedSimpArgs false
set_option maxHeartbeats 8000000 in
set_option maxRecDepth 100000 in
theorem rbit_c (s : VS) (at_ : Nat) (n : Int) (w : World) (hs : s.ok) (h : at_ ≤ 21) :
    Calls Try.prog 46 #[.agg s.cells, .int .i64 (at_ : Int), .int .i64 n] w fun e w' => e = .returned (.bool (bitW (s.r (1 + at_)) n)) ∧ KpN w w' := by
  have i0 : (0 : Int) ≤ (at_ : Int) := by omega
  have i1 : (at_ : Int) < 22 := by omega
  go_enter Try.func46, Try.ntmps46
  go_wp2_with (first
    | ((with_reducible refine gate_dst (N := 3) rfl ?_); refine bx_ev rfl rfl (N := 3) rfl s.cells rfl ?_; intro g hg w1 hb1 hk1; have Hg := Aside0.mk hg; clear hg; have c1 := (St.mk hb1).c (1 + at_) (by omega) (by omega))
    | (go_at_call 22; refine (getr_c _ _ _ _ (hs _)).mono ?_; rintro e w2 ⟨rfl, hk2⟩))
  go_ret
  exact ⟨congrArg (fun z => Ending.returned (.bool z)) (bit_eq _ _), hk1.trans hk2⟩
theorem rbit_l (s : VS) (k : Nat) (n : Int) (w : World) (hs : s.ok) (h : k ≤ 21) :
    Calls Try.prog 46 #[.agg s.cells, .int .i64 (@OfNat.ofNat Int k instOfNat), .int .i64 n] w fun e w' => e = .returned (.bool (bitW (s.r (1 + k)) n)) ∧ KpN w w' := rbit_c s k n w hs h
/-! the rows -/
def findR (l : List S119) (n : Int) : Int × ByteArray × Int × Int × Bool :=
  match l.find? (fun x => decide (x.f0 = n)) with
  | some x => (x.f0, x.f1, x.f2, x.f3, true)
  | none => (0, ⟨#[]⟩, 0, 0, false)
def rowsL : List S119 := vireoref08_Rows.f.getD []
def ofR (n : Int) : Int × ByteArray × Int × Int × Bool := findR rowsL n
theorem of_l (l : List S119) (n : Int) (hl : l.length ≤ 40) : ∀ (d k i : Nat), i + d = l.length → d < k → vireoref08_Of.l0 k n l (i : Int) 0 ⟨#[]⟩ 0 0 = some (findR (l.drop i) n)
  | 0, k, i, hi, hk => by
    obtain ⟨k, rfl⟩ : ∃ m, k = m + 1 := ⟨k - 1, by omega⟩
    rw [vireoref08_Of.l0, if_neg (by omega), List.drop_eq_nil_of_le (by omega)]
    rfl
  | d + 1, k, i, hi, hk => by
    obtain ⟨k, rfl⟩ : ∃ m, k = m + 1 := ⟨k - 1, by omega⟩
    have hil : i < l.length := by omega
    have e2 : wrap64 ((i : Int) + 1) = ((i + 1 : Nat) : Int) := by rw [w64_id _ (by omega) (by omega)]; omega
    have er : rd_T119 l (i : Int) = l[i] := by
      unfold rd_T119; rw [Int.toNat_natCast, List.getD_eq_getElem?_getD, List.getElem?_eq_getElem hil]; rfl
    have ih := of_l l n hl d k (i + 1) (by omega) (by omega)
    rw [vireoref08_Of.l0, if_pos (by omega), if_pos (by omega), er, e2, ih, List.drop_eq_getElem_cons hil]
    unfold findR
    by_cases h : l[i].f0 = n
    · rw [if_pos h, List.find?_cons_of_pos (by simpa using h)]
    · rw [if_neg h, List.find?_cons_of_neg (by simpa using h)]
theorem of_c (n : Int) (w : World) :
    Calls Try.prog 71 #[.int .i64 n] w fun e w' => e = .returned (.tuple #[.agg #[.int .i64 (ofR n).1, .string (ofR n).2.1, .int .i64 (ofR n).2.2.1, .int .u64 (ofR n).2.2.2.1], .bool (ofR n).2.2.2.2]) ∧ KpN w w' := by
  have h : vireoref08_Of.f 40 n = some (ofR n) := by
    have := of_l rowsL n (by decide) 31 40 0 (by decide) (by decide)
    unfold vireoref08_Of.f
    exact this
  exact (vireoref08_Of.calls 40 n _ _ _ _ _ w h).mono fun e w' h => ⟨h.1, Kp.of_below h.2 _⟩
end Go.Proofs.Ytlhdildnekllhaa.H
