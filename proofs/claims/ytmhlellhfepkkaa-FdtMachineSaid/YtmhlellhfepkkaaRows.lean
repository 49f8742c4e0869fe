/-
  No cell of these rows narrows 'for every input' (looked for: loops, veiled, ifaces, maps, wideKeys, modest, calm, conditions, laid).
  DERIVED. THE GIVEN ROWS OF THIS SEAT. 6 by the template 'for every input the law returns true; each argument reads behind the call as it read before'; 0 by the template 'total and deterministic' (their statements: YtmhlellhfepkkaaTotals.lean).
  GIVEN WITH THE SEED: the statements are not yours to turn. If you find one false, say at which input.
  Laid BY PROGRAM, IN A SANDBOX (cutbox-rows.mjs): the forced cells as the released guide's own fill.sh prints them over the translation 7eeb1bbc3d531627… (all of the seat's roots in one cut). By AI agents, Wed Nov 11 2026. No macro, syntax, notation, axiom, sorry.
-/
import Derived.Test.YtmhlellhfepkkaaChecked
import GoSem.Claim
import GoSem.ClaimJoined
import GoSem.ClaimMapViews
import Derived.JoinedTies
import Derived.KernelRfl
namespace Go.Proofs.Ytmhlellhfepkkaa
/- THE CELL 'sum', in the pinned program and in every row, IS THE sha256 OF THE DUMP (.gsa) THAT YtmhlellhfepkkaaProg.lean LOADS. Nothing in Lean hashes anything: it is a label: what it is worth is what the hold of that sum in a sandbox is worth. -/
noncomputable def Try.pinned : Pinned := { name := "ytmhlellhfepkkaa", sum := "7eeb1bbc3d531627968e3f5b83f281242471e673c2e1b8d042054631b715decb", checked := Try.checked }
namespace Rows
def none {H : Type} : Left H := { results := [], args := [] }

/-- 'vireolaw26.FdtWrites': WHATEVER THE INPUT: true; the input reads as it did. -/
def fdtWritesSpec : ChangeSpec := { name := "fdtWrites", fn := fun _ => fun
  | [d] => { results := [.lit (.bool true)], args := [d] }
  | _ => none }
def fdtWritesRow : OpenClaim := { program := "ytmhlellhfepkkaa", sum := "7eeb1bbc3d531627968e3f5b83f281242471e673c2e1b8d042054631b715decb", func := "vireo/vireolaw26.FdtWrites", spec := "fdtWrites", recurses := true, apart := false }
def FdtWritesSaid : Prop := fdtWritesRow.holds Try.pinned (OpenSpec.ofChange fdtWritesSpec)

/-- ITS FALSE NEIGHBOUR: 'it returns false'. Refute it at one input. -/
def fdtWritesWrong : ChangeSpec := { name := "fdtWrites", fn := fun _ => fun
  | [d] => { results := [.lit (.bool false)], args := [d] }
  | _ => none }
def FdtWritesWrongFalsely : Prop := fdtWritesRow.holds Try.pinned (OpenSpec.ofChange fdtWritesWrong)

/-- 'vireolaw26.FdtWords': WHATEVER THE INPUT: true; the input reads as it did. -/
def fdtWordsSpec : ChangeSpec := { name := "fdtWords", fn := fun _ => fun
  | [d1, d2, d3] => { results := [.lit (.bool true)], args := [d1, d2, d3] }
  | _ => none }
def fdtWordsRow : OpenClaim := { program := "ytmhlellhfepkkaa", sum := "7eeb1bbc3d531627968e3f5b83f281242471e673c2e1b8d042054631b715decb", func := "vireo/vireolaw26.FdtWords", spec := "fdtWords", recurses := true, apart := false }
def FdtWordsSaid : Prop := fdtWordsRow.holds Try.pinned (OpenSpec.ofChange fdtWordsSpec)

/-- ITS FALSE NEIGHBOUR: 'it returns false'. Refute it at one input. -/
def fdtWordsWrong : ChangeSpec := { name := "fdtWords", fn := fun _ => fun
  | [d1, d2, d3] => { results := [.lit (.bool false)], args := [d1, d2, d3] }
  | _ => none }
def FdtWordsWrongFalsely : Prop := fdtWordsRow.holds Try.pinned (OpenSpec.ofChange fdtWordsWrong)

/-- 'vireolaw26.FdtFinds': WHATEVER THE INPUT: true; the input reads as it did. -/
def fdtFindsSpec : ChangeSpec := { name := "fdtFinds", fn := fun _ => fun
  | [d1, d2, d3] => { results := [.lit (.bool true)], args := [d1, d2, d3] }
  | _ => none }
def fdtFindsRow : OpenClaim := { program := "ytmhlellhfepkkaa", sum := "7eeb1bbc3d531627968e3f5b83f281242471e673c2e1b8d042054631b715decb", func := "vireo/vireolaw26.FdtFinds", spec := "fdtFinds", recurses := true, apart := false }
def FdtFindsSaid : Prop := fdtFindsRow.holds Try.pinned (OpenSpec.ofChange fdtFindsSpec)

/-- ITS FALSE NEIGHBOUR: 'it returns false'. Refute it at one input. -/
def fdtFindsWrong : ChangeSpec := { name := "fdtFinds", fn := fun _ => fun
  | [d1, d2, d3] => { results := [.lit (.bool false)], args := [d1, d2, d3] }
  | _ => none }
def FdtFindsWrongFalsely : Prop := fdtFindsRow.holds Try.pinned (OpenSpec.ofChange fdtFindsWrong)

/-- 'vireolaw26.FdtMachine': WHATEVER THE INPUT: true; the input reads as it did. -/
def fdtMachineSpec : ChangeSpec := { name := "fdtMachine", fn := fun _ => fun
  | [d] => { results := [.lit (.bool true)], args := [d] }
  | _ => none }
def fdtMachineRow : OpenClaim := { program := "ytmhlellhfepkkaa", sum := "7eeb1bbc3d531627968e3f5b83f281242471e673c2e1b8d042054631b715decb", func := "vireo/vireolaw26.FdtMachine", spec := "fdtMachine", recurses := true, apart := false }
def FdtMachineSaid : Prop := fdtMachineRow.holds Try.pinned (OpenSpec.ofChange fdtMachineSpec)

/-- ITS FALSE NEIGHBOUR: 'it returns false'. Refute it at one input. -/
def fdtMachineWrong : ChangeSpec := { name := "fdtMachine", fn := fun _ => fun
  | [d] => { results := [.lit (.bool false)], args := [d] }
  | _ => none }
def FdtMachineWrongFalsely : Prop := fdtMachineRow.holds Try.pinned (OpenSpec.ofChange fdtMachineWrong)

/-- 'vireolaw26.FdtBack': WHATEVER THE INPUT: true; the input reads as it did. -/
def fdtBackSpec : ChangeSpec := { name := "fdtBack", fn := fun _ => fun
  | [d] => { results := [.lit (.bool true)], args := [d] }
  | _ => none }
def fdtBackRow : OpenClaim := { program := "ytmhlellhfepkkaa", sum := "7eeb1bbc3d531627968e3f5b83f281242471e673c2e1b8d042054631b715decb", func := "vireo/vireolaw26.FdtBack", spec := "fdtBack", recurses := true, apart := false }
def FdtBackSaid : Prop := fdtBackRow.holds Try.pinned (OpenSpec.ofChange fdtBackSpec)

/-- ITS FALSE NEIGHBOUR: 'it returns false'. Refute it at one input. -/
def fdtBackWrong : ChangeSpec := { name := "fdtBack", fn := fun _ => fun
  | [d] => { results := [.lit (.bool false)], args := [d] }
  | _ => none }
def FdtBackWrongFalsely : Prop := fdtBackRow.holds Try.pinned (OpenSpec.ofChange fdtBackWrong)

/-- 'vireolaw26.FdtParses': WHATEVER THE INPUT: true; the input reads as it did. -/
def fdtParsesSpec : ChangeSpec := { name := "fdtParses", fn := fun _ => fun
  | [d] => { results := [.lit (.bool true)], args := [d] }
  | _ => none }
def fdtParsesRow : OpenClaim := { program := "ytmhlellhfepkkaa", sum := "7eeb1bbc3d531627968e3f5b83f281242471e673c2e1b8d042054631b715decb", func := "vireo/vireolaw26.FdtParses", spec := "fdtParses", recurses := true, apart := false }
def FdtParsesSaid : Prop := fdtParsesRow.holds Try.pinned (OpenSpec.ofChange fdtParsesSpec)

/-- ITS FALSE NEIGHBOUR: 'it returns false'. Refute it at one input. -/
def fdtParsesWrong : ChangeSpec := { name := "fdtParses", fn := fun _ => fun
  | [d] => { results := [.lit (.bool false)], args := [d] }
  | _ => none }
def FdtParsesWrongFalsely : Prop := fdtParsesRow.holds Try.pinned (OpenSpec.ofChange fdtParsesWrong)

/- THE SECOND FORM. 'bulk': how many values and letters a reading holds, each counted each time it is reached (what is shared counts as often as it is met; a slice's spare places count too). A statement '..UptoSaid' is the law's where the arguments, and the package variables that the reading takes, are together of bulk at most 1048576: NARROWER than '..Said'. Prove '..Said' where nothing that the law and all that it calls make is longer than what came in: it says more and counts as full. Else prove '..UptoSaid'. A law counts once. -/
mutual
def uptoBulk {H : Type} : DataW H → Nat
  | .lit (.string bytes) => bytes.length + 1
  | .lit _ => 1
  | .nil => 1
  | .ptr d => uptoBulk d + 1
  | .slice elems spare => uptoBulkAll elems + uptoBulkAll spare + 1
  | .agg parts => uptoBulkAll parts + 1
  | .iface _ d => uptoBulk d + 1
  | .map entries => uptoBulkEntries entries + 1
  | .held _ => 1
def uptoBulkAll {H : Type} : List (DataW H) → Nat
  | [] => 0
  | d :: r => uptoBulk d + uptoBulkAll r
def uptoBulkEntries {H : Type} : List (Lit × DataW H) → Nat
  | [] => 0
  | x :: r => uptoBulkEntry x + uptoBulkEntries r
def uptoBulkEntry {H : Type} : Lit × DataW H → Nat
  | (.string bytes, d) => bytes.length + uptoBulk d + 1
  | (_, d) => uptoBulk d + 1
 end
def uptoSmall : (H : Type) → List (DataW H) → Bool := fun _ ds => decide (uptoBulkAll ds ≤ 1048576)
def OpenSpec.upto (s : _root_.Go.ChangeSpec) : _root_.Go.OpenSpec := { _root_.Go.OpenSpec.ofChange s with cond := some uptoSmall }

/-- 'vireolaw26.FdtWrites', WHERE WHAT IT READS IS OF BULK AT MOST 1048576: true; the input reads as it did. -/
def fdtWritesUptoRow : OpenClaim := { program := "ytmhlellhfepkkaa", sum := "7eeb1bbc3d531627968e3f5b83f281242471e673c2e1b8d042054631b715decb", func := "vireo/vireolaw26.FdtWrites", spec := "fdtWrites", recurses := true, apart := false, narrowed := true }
def FdtWritesUptoSaid : Prop := fdtWritesUptoRow.holds Try.pinned (OpenSpec.upto fdtWritesSpec)

/-- 'vireolaw26.FdtWords', WHERE WHAT IT READS IS OF BULK AT MOST 1048576: true; the input reads as it did. -/
def fdtWordsUptoRow : OpenClaim := { program := "ytmhlellhfepkkaa", sum := "7eeb1bbc3d531627968e3f5b83f281242471e673c2e1b8d042054631b715decb", func := "vireo/vireolaw26.FdtWords", spec := "fdtWords", recurses := true, apart := false, narrowed := true }
def FdtWordsUptoSaid : Prop := fdtWordsUptoRow.holds Try.pinned (OpenSpec.upto fdtWordsSpec)

/-- 'vireolaw26.FdtFinds', WHERE WHAT IT READS IS OF BULK AT MOST 1048576: true; the input reads as it did. -/
def fdtFindsUptoRow : OpenClaim := { program := "ytmhlellhfepkkaa", sum := "7eeb1bbc3d531627968e3f5b83f281242471e673c2e1b8d042054631b715decb", func := "vireo/vireolaw26.FdtFinds", spec := "fdtFinds", recurses := true, apart := false, narrowed := true }
def FdtFindsUptoSaid : Prop := fdtFindsUptoRow.holds Try.pinned (OpenSpec.upto fdtFindsSpec)

/-- 'vireolaw26.FdtMachine', WHERE WHAT IT READS IS OF BULK AT MOST 1048576: true; the input reads as it did. -/
def fdtMachineUptoRow : OpenClaim := { program := "ytmhlellhfepkkaa", sum := "7eeb1bbc3d531627968e3f5b83f281242471e673c2e1b8d042054631b715decb", func := "vireo/vireolaw26.FdtMachine", spec := "fdtMachine", recurses := true, apart := false, narrowed := true }
def FdtMachineUptoSaid : Prop := fdtMachineUptoRow.holds Try.pinned (OpenSpec.upto fdtMachineSpec)

/-- 'vireolaw26.FdtBack', WHERE WHAT IT READS IS OF BULK AT MOST 1048576: true; the input reads as it did. -/
def fdtBackUptoRow : OpenClaim := { program := "ytmhlellhfepkkaa", sum := "7eeb1bbc3d531627968e3f5b83f281242471e673c2e1b8d042054631b715decb", func := "vireo/vireolaw26.FdtBack", spec := "fdtBack", recurses := true, apart := false, narrowed := true }
def FdtBackUptoSaid : Prop := fdtBackUptoRow.holds Try.pinned (OpenSpec.upto fdtBackSpec)

/-- 'vireolaw26.FdtParses', WHERE WHAT IT READS IS OF BULK AT MOST 1048576: true; the input reads as it did. -/
def fdtParsesUptoRow : OpenClaim := { program := "ytmhlellhfepkkaa", sum := "7eeb1bbc3d531627968e3f5b83f281242471e673c2e1b8d042054631b715decb", func := "vireo/vireolaw26.FdtParses", spec := "fdtParses", recurses := true, apart := false, narrowed := true }
def FdtParsesUptoSaid : Prop := fdtParsesUptoRow.holds Try.pinned (OpenSpec.upto fdtParsesSpec)

end Rows
end Go.Proofs.Ytmhlellhfepkkaa
