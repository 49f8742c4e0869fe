/- The hart's registers (package csr), walked by hand: who may, names; the page's example. -/
import Derived.Test.YtlhdildnekllhaaHcsr3
namespace Go.Proofs.Ytlhdildnekllhaa.H
open Go.RowKit Go.Proofs.YtlhdildnekllhaaW.PrintWords Go.Proofs.YtlhdildnekllhaaW.PrintLast Go.Proofs.Ytlhdildnekllhaa.PAl Go.Proofs.Ytlhdildnekllhaa.Pure Go.Proofs.Ytlhdildnekllhaa.Vw
set_option linter.unusedVariables false
set_option linter.unusedSimpArgs false
theorem statusW_m (s : VS) (x k : Nat) : (statusW s x k).m = s.m := by unfold statusW; split <;> rfl
theorem writeW_m (s : VS) (n : Int) (x : Nat) : (writeW s n x).m = s.m := by
  unfold writeW; repeat' split
  all_goals first | exact statusW_m _ _ _ | rfl
theorem write_l (g : Nat) (s : VS) (n : Int) (k : Nat) (w : World) (hI : St FT w g s) (hs : s.ok) (hk : k < 18446744073709551616) :
    Calls Try.prog 42 #[.pointer (some ⟨g, 0, none⟩), .int .i64 n, .int .u64 (@OfNat.ofNat Int k instOfNat)] w fun e w' => e = .returned (.tuple #[]) ∧ St FT w' g (writeW s n k) ∧ KpG w w' g :=
  write_c g s n k w hI hs ⟨hk⟩
def awakeS : VS := writeW (writeW (writeW vs0 773 8) 773 6) 833 7
theorem awakeS_ok : awakeS.ok := writeW_ok (writeW_ok (writeW_ok vs0_ok 773 U.num) 773 U.num) 833 U.num
theorem awake1 : readW awakeS 773 = 8 := by decide +kernel
theorem awake2 : readW awakeS 833 = 4 := by decide +kernel
theorem awake3 : knownW 769 = true := by decide +kernel
theorem awakeM : awakeS.m = 3 := by unfold awakeS; rw [writeW_m, writeW_m, writeW_m]; rfl
end Go.Proofs.Ytlhdildnekllhaa.H
