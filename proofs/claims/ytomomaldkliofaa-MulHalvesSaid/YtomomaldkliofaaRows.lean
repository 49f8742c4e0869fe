/-
  No cell of these rows narrows 'for every input' (looked for: loops, veiled, ifaces, maps, wideKeys, modest, calm, conditions, laid).
  DERIVED. THE GIVEN ROWS OF THIS SEAT. 5 by the template 'for every input the law returns true; each argument reads behind the call as it read before'; 0 by the template 'total and deterministic' (their statements: YtomomaldkliofaaTotals.lean).
  GIVEN WITH THE SEED: the statements are not yours to turn. If you find one false, say at which input.
  Laid BY PROGRAM, IN A SANDBOX (cutbox-rows.mjs): the forced cells as the released guide's own fill.sh prints them over the translation bd1e00df1383fd0a… (all of the seat's roots in one cut). By AI agents, Wed Nov 11 2026. No macro, syntax, notation, axiom, sorry.
-/
import Derived.Test.YtomomaldkliofaaChecked
import GoSem.Claim
import GoSem.ClaimJoined
import GoSem.ClaimMapViews
import Derived.JoinedTies
import Derived.KernelRfl
namespace Go.Proofs.Ytomomaldkliofaa
/- THE CELL 'sum', in the pinned program and in every row, IS THE sha256 OF THE DUMP (.gsa) THAT YtomomaldkliofaaProg.lean LOADS. Nothing in Lean hashes anything: it is a label: what it is worth is what the hold of that sum in a sandbox is worth. -/
noncomputable def Try.pinned : Pinned := { name := "ytomomaldkliofaa", sum := "bd1e00df1383fd0af84563d04a58b6362ffa2cb2904e6f6494d2baa5fd511d4c", checked := Try.checked }
namespace Rows
def none {H : Type} : Left H := { results := [], args := [] }

/-- 'vireolaw06.MulDoes': WHATEVER THE INPUT: true; the input reads as it did. -/
def mulDoesSpec : ChangeSpec := { name := "mulDoes", fn := fun _ => fun
  | [d1, d2, d3] => { results := [.lit (.bool true)], args := [d1, d2, d3] }
  | _ => none }
def mulDoesRow : OpenClaim := { program := "ytomomaldkliofaa", sum := "bd1e00df1383fd0af84563d04a58b6362ffa2cb2904e6f6494d2baa5fd511d4c", func := "vireo/vireolaw06.MulDoes", spec := "mulDoes", apart := false }
def MulDoesSaid : Prop := mulDoesRow.holds Try.pinned (OpenSpec.ofChange mulDoesSpec)

/-- ITS FALSE NEIGHBOUR: 'it returns false'. Refute it at one input. -/
def mulDoesWrong : ChangeSpec := { name := "mulDoes", fn := fun _ => fun
  | [d1, d2, d3] => { results := [.lit (.bool false)], args := [d1, d2, d3] }
  | _ => none }
def MulDoesWrongFalsely : Prop := mulDoesRow.holds Try.pinned (OpenSpec.ofChange mulDoesWrong)

/-- 'vireolaw06.MulHighs': WHATEVER THE INPUT: true; the input reads as it did. -/
def mulHighsSpec : ChangeSpec := { name := "mulHighs", fn := fun _ => fun
  | [d1, d2, d3] => { results := [.lit (.bool true)], args := [d1, d2, d3] }
  | _ => none }
def mulHighsRow : OpenClaim := { program := "ytomomaldkliofaa", sum := "bd1e00df1383fd0af84563d04a58b6362ffa2cb2904e6f6494d2baa5fd511d4c", func := "vireo/vireolaw06.MulHighs", spec := "mulHighs", apart := false }
def MulHighsSaid : Prop := mulHighsRow.holds Try.pinned (OpenSpec.ofChange mulHighsSpec)

/-- ITS FALSE NEIGHBOUR: 'it returns false'. Refute it at one input. -/
def mulHighsWrong : ChangeSpec := { name := "mulHighs", fn := fun _ => fun
  | [d1, d2, d3] => { results := [.lit (.bool false)], args := [d1, d2, d3] }
  | _ => none }
def MulHighsWrongFalsely : Prop := mulHighsRow.holds Try.pinned (OpenSpec.ofChange mulHighsWrong)

/-- 'vireolaw06.MulBack': WHATEVER THE INPUT: true; the input reads as it did. -/
def mulBackSpec : ChangeSpec := { name := "mulBack", fn := fun _ => fun
  | [d1, d2] => { results := [.lit (.bool true)], args := [d1, d2] }
  | _ => none }
def mulBackRow : OpenClaim := { program := "ytomomaldkliofaa", sum := "bd1e00df1383fd0af84563d04a58b6362ffa2cb2904e6f6494d2baa5fd511d4c", func := "vireo/vireolaw06.MulBack", spec := "mulBack", apart := false }
def MulBackSaid : Prop := mulBackRow.holds Try.pinned (OpenSpec.ofChange mulBackSpec)

/-- ITS FALSE NEIGHBOUR: 'it returns false'. Refute it at one input. -/
def mulBackWrong : ChangeSpec := { name := "mulBack", fn := fun _ => fun
  | [d1, d2] => { results := [.lit (.bool false)], args := [d1, d2] }
  | _ => none }
def MulBackWrongFalsely : Prop := mulBackRow.holds Try.pinned (OpenSpec.ofChange mulBackWrong)

/-- 'vireolaw06.MulHalves': WHATEVER THE INPUT: true; the input reads as it did. -/
def mulHalvesSpec : ChangeSpec := { name := "mulHalves", fn := fun _ => fun
  | [d1, d2, d3] => { results := [.lit (.bool true)], args := [d1, d2, d3] }
  | _ => none }
def mulHalvesRow : OpenClaim := { program := "ytomomaldkliofaa", sum := "bd1e00df1383fd0af84563d04a58b6362ffa2cb2904e6f6494d2baa5fd511d4c", func := "vireo/vireolaw06.MulHalves", spec := "mulHalves", apart := false }
def MulHalvesSaid : Prop := mulHalvesRow.holds Try.pinned (OpenSpec.ofChange mulHalvesSpec)

/-- ITS FALSE NEIGHBOUR: 'it returns false'. Refute it at one input. -/
def mulHalvesWrong : ChangeSpec := { name := "mulHalves", fn := fun _ => fun
  | [d1, d2, d3] => { results := [.lit (.bool false)], args := [d1, d2, d3] }
  | _ => none }
def MulHalvesWrongFalsely : Prop := mulHalvesRow.holds Try.pinned (OpenSpec.ofChange mulHalvesWrong)

/-- 'vireolaw06.MulTurns': WHATEVER THE INPUT: true; the input reads as it did. -/
def mulTurnsSpec : ChangeSpec := { name := "mulTurns", fn := fun _ => fun
  | [d1, d2] => { results := [.lit (.bool true)], args := [d1, d2] }
  | _ => none }
def mulTurnsRow : OpenClaim := { program := "ytomomaldkliofaa", sum := "bd1e00df1383fd0af84563d04a58b6362ffa2cb2904e6f6494d2baa5fd511d4c", func := "vireo/vireolaw06.MulTurns", spec := "mulTurns", apart := false }
def MulTurnsSaid : Prop := mulTurnsRow.holds Try.pinned (OpenSpec.ofChange mulTurnsSpec)

/-- ITS FALSE NEIGHBOUR: 'it returns false'. Refute it at one input. -/
def mulTurnsWrong : ChangeSpec := { name := "mulTurns", fn := fun _ => fun
  | [d1, d2] => { results := [.lit (.bool false)], args := [d1, d2] }
  | _ => none }
def MulTurnsWrongFalsely : Prop := mulTurnsRow.holds Try.pinned (OpenSpec.ofChange mulTurnsWrong)

/- THE SECOND FORM. 'bulk': how many values and letters a reading holds, each counted each time it is reached (what is shared counts as often as it is met; a slice's spare places count too). A statement '..UptoSaid' is the law's where the arguments, and the package variables that the reading takes, are together of bulk at most 1048576: NARROWER than '..Said'. Prove '..Said' where nothing that the law and all that it calls make is longer than what came in: it says more and counts as full. Else prove '..UptoSaid'. A law counts once. -/
mutual
def uptoBulk {H : Type} : DataW H → Nat
  | .lit (.string bytes) => bytes.length + 1
  | .lit _ => 1
  | .nil => 1
  | .ptr d => uptoBulk d + 1
  | .slice elems spare => uptoBulkAll elems + uptoBulkAll spare + 1
  | .agg parts => uptoBulkAll parts + 1
  | .iface _ d => uptoBulk d + 1
  | .map entries => uptoBulkEntries entries + 1
  | .held _ => 1
def uptoBulkAll {H : Type} : List (DataW H) → Nat
  | [] => 0
  | d :: r => uptoBulk d + uptoBulkAll r
def uptoBulkEntries {H : Type} : List (Lit × DataW H) → Nat
  | [] => 0
  | x :: r => uptoBulkEntry x + uptoBulkEntries r
def uptoBulkEntry {H : Type} : Lit × DataW H → Nat
  | (.string bytes, d) => bytes.length + uptoBulk d + 1
  | (_, d) => uptoBulk d + 1
 end
def uptoSmall : (H : Type) → List (DataW H) → Bool := fun _ ds => decide (uptoBulkAll ds ≤ 1048576)
def OpenSpec.upto (s : _root_.Go.ChangeSpec) : _root_.Go.OpenSpec := { _root_.Go.OpenSpec.ofChange s with cond := some uptoSmall }

/-- 'vireolaw06.MulDoes', WHERE WHAT IT READS IS OF BULK AT MOST 1048576: true; the input reads as it did. -/
def mulDoesUptoRow : OpenClaim := { program := "ytomomaldkliofaa", sum := "bd1e00df1383fd0af84563d04a58b6362ffa2cb2904e6f6494d2baa5fd511d4c", func := "vireo/vireolaw06.MulDoes", spec := "mulDoes", apart := false, narrowed := true }
def MulDoesUptoSaid : Prop := mulDoesUptoRow.holds Try.pinned (OpenSpec.upto mulDoesSpec)

/-- 'vireolaw06.MulHighs', WHERE WHAT IT READS IS OF BULK AT MOST 1048576: true; the input reads as it did. -/
def mulHighsUptoRow : OpenClaim := { program := "ytomomaldkliofaa", sum := "bd1e00df1383fd0af84563d04a58b6362ffa2cb2904e6f6494d2baa5fd511d4c", func := "vireo/vireolaw06.MulHighs", spec := "mulHighs", apart := false, narrowed := true }
def MulHighsUptoSaid : Prop := mulHighsUptoRow.holds Try.pinned (OpenSpec.upto mulHighsSpec)

/-- 'vireolaw06.MulBack', WHERE WHAT IT READS IS OF BULK AT MOST 1048576: true; the input reads as it did. -/
def mulBackUptoRow : OpenClaim := { program := "ytomomaldkliofaa", sum := "bd1e00df1383fd0af84563d04a58b6362ffa2cb2904e6f6494d2baa5fd511d4c", func := "vireo/vireolaw06.MulBack", spec := "mulBack", apart := false, narrowed := true }
def MulBackUptoSaid : Prop := mulBackUptoRow.holds Try.pinned (OpenSpec.upto mulBackSpec)

/-- 'vireolaw06.MulHalves', WHERE WHAT IT READS IS OF BULK AT MOST 1048576: true; the input reads as it did. -/
def mulHalvesUptoRow : OpenClaim := { program := "ytomomaldkliofaa", sum := "bd1e00df1383fd0af84563d04a58b6362ffa2cb2904e6f6494d2baa5fd511d4c", func := "vireo/vireolaw06.MulHalves", spec := "mulHalves", apart := false, narrowed := true }
def MulHalvesUptoSaid : Prop := mulHalvesUptoRow.holds Try.pinned (OpenSpec.upto mulHalvesSpec)

/-- 'vireolaw06.MulTurns', WHERE WHAT IT READS IS OF BULK AT MOST 1048576: true; the input reads as it did. -/
def mulTurnsUptoRow : OpenClaim := { program := "ytomomaldkliofaa", sum := "bd1e00df1383fd0af84563d04a58b6362ffa2cb2904e6f6494d2baa5fd511d4c", func := "vireo/vireolaw06.MulTurns", spec := "mulTurns", apart := false, narrowed := true }
def MulTurnsUptoSaid : Prop := mulTurnsUptoRow.holds Try.pinned (OpenSpec.upto mulTurnsSpec)

end Rows
end Go.Proofs.Ytomomaldkliofaa
