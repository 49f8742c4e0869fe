/- fdt.Parse, as the print tells it. -/
import Derived.Test.YtmhlellhfepkkaaHpa
namespace Go.Proofs.Ytmhlellhfepkkaa.PAl
open Go.RowKit Go.Proofs.YtmhlellhfepkkaaW.PrintWords Go.Proofs.YtmhlellhfepkkaaW.PrintLast Go.Proofs.YtmhlellhfepkkaaW.PrintMore Go.Proofs.Ytmhlellhfepkkaa.H Go.Proofs.Ytmhlellhfepkkaa.B
set_option linter.unusedVariables false
set_option linter.unusedSimpArgs false
theorem fdt_Parse.mono : ∀ a0 k, LeO (fdt_Parse.f k a0) (fdt_Parse.f (k + 1) a0) := by
  intro a0 k
  unfold fdt_Parse.f fdt_Parse.g
  refine LeO.ite (LeO.ite (LeO.refl _) (LeO.bind (LeO.refl _) (fun _ => LeO.ite (LeO.bind (LeO.refl _) (fun _ => LeO.ite (LeO.ite (LeO.bind ((rn_mono k).2 _ _ _ _ _) (fun q => LeO.ite (LeO.refl _) (LeO.bind (fdt_Bytes.mono _ _ _ k) (fun _ => LeO.refl _)))) (LeO.refl _)) (LeO.refl _))) (LeO.refl _)))) (LeO.refl _)
theorem fdt_Parse.calls (k : Nat) (P0_ : Nat → Prop) (A0 : Option Addr) (c0 : Nat) (l0 : List Int) (r1 : ByteArray) (r2 : List (S74)) (r3 : List (S32)) (r4 : Int) (w : World) (hs0 : Kd.V (Kd.int .u8) 5 w w.heap.size (fun k_ => P0_ k_) (.slice A0 l0.length c0) l0) (h : fdt_Parse.f k l0 = some (r1, r2, r3, r4)) :
    Calls Try.prog 28 #[.slice A0 l0.length c0] w fun e w' => ∃ v1_ v2_ : Value, e = .returned (.tuple #[.agg #[.string r1, v1_, v2_], .int .i64 r4]) ∧ Kd.N k74 74 w' w.heap.size (fun k_ => (P0_ k_ ∨ w.heap.size ≤ k_) ∧ some k_ ≠ (v2_ : Value).ownBlock) v1_ r2 ∧ Kd.N k32 32 w' w.heap.size (fun k_ => (P0_ k_ ∨ w.heap.size ≤ k_) ∧ some k_ ≠ (v1_ : Value).ownBlock) v2_ r3 ∧ Below w.heap.size w w' := by
  refine (fdt_Parse.calls0 k A0 c0 l0 (r1, r2, r3, r4) w (Kd.V_reads' hs0).2.2 (Kd.V_reads' hs0).2.1 h).mono ?_
  rintro e w' ⟨v1, v2, he, n1, n2, hb⟩
  exact ⟨v1, v2, he, Kd.N_mono n1 (fun k q => ⟨.inr q.1, q.2⟩), Kd.N_mono n2 (fun k q => ⟨.inr q.1, q.2⟩), hb⟩
end Go.Proofs.Ytmhlellhfepkkaa.PAl
