/-
  No cell of these rows narrows 'for every input' (looked for: loops, veiled, ifaces, maps, wideKeys, modest, calm, conditions, laid).
  DERIVED. THE GIVEN ROWS OF THIS SEAT. 6 by the template 'for every input the law returns true; each argument reads behind the call as it read before'; 0 by the template 'total and deterministic' (their statements: YtijckgnhkmgpnaaTotals.lean).
  GIVEN WITH THE SEED: the statements are not yours to turn. If you find one false, say at which input.
  Laid BY PROGRAM, IN A SANDBOX (cutbox-rows.mjs): the forced cells as the released guide's own fill.sh prints them over the translation 76f48454b0a07c28… (all of the seat's roots in one cut). By AI agents, Wed Nov 11 2026. No macro, syntax, notation, axiom, sorry.
-/
import Derived.Test.YtijckgnhkmgpnaaChecked
import GoSem.Claim
import GoSem.ClaimJoined
import GoSem.ClaimMapViews
import Derived.JoinedTies
import Derived.KernelRfl
namespace Go.Proofs.Ytijckgnhkmgpnaa
/- THE CELL 'sum', in the pinned program and in every row, IS THE sha256 OF THE DUMP (.gsa) THAT YtijckgnhkmgpnaaProg.lean LOADS. Nothing in Lean hashes anything: it is a label: what it is worth is what the hold of that sum in a sandbox is worth. -/
noncomputable def Try.pinned : Pinned := { name := "ytijckgnhkmgpnaa", sum := "76f48454b0a07c28991cbad410643a8d5668fe607686547b22868628c8cecc2b", checked := Try.checked }
namespace Rows
def none {H : Type} : Left H := { results := [], args := [] }

/-- 'vireolaw05.AluDoes': WHATEVER THE INPUT: true; the input reads as it did. -/
def aluDoesSpec : ChangeSpec := { name := "aluDoes", fn := fun _ => fun
  | [d1, d2, d3] => { results := [.lit (.bool true)], args := [d1, d2, d3] }
  | _ => none }
def aluDoesRow : OpenClaim := { program := "ytijckgnhkmgpnaa", sum := "76f48454b0a07c28991cbad410643a8d5668fe607686547b22868628c8cecc2b", func := "vireo/vireolaw05.AluDoes", spec := "aluDoes", apart := false }
def AluDoesSaid : Prop := aluDoesRow.holds Try.pinned (OpenSpec.ofChange aluDoesSpec)

/-- ITS FALSE NEIGHBOUR: 'it returns false'. Refute it at one input. -/
def aluDoesWrong : ChangeSpec := { name := "aluDoes", fn := fun _ => fun
  | [d1, d2, d3] => { results := [.lit (.bool false)], args := [d1, d2, d3] }
  | _ => none }
def AluDoesWrongFalsely : Prop := aluDoesRow.holds Try.pinned (OpenSpec.ofChange aluDoesWrong)

/-- 'vireolaw05.AluTakes': WHATEVER THE INPUT: true; the input reads as it did. -/
def aluTakesSpec : ChangeSpec := { name := "aluTakes", fn := fun _ => fun
  | [d1, d2, d3] => { results := [.lit (.bool true)], args := [d1, d2, d3] }
  | _ => none }
def aluTakesRow : OpenClaim := { program := "ytijckgnhkmgpnaa", sum := "76f48454b0a07c28991cbad410643a8d5668fe607686547b22868628c8cecc2b", func := "vireo/vireolaw05.AluTakes", spec := "aluTakes", apart := false }
def AluTakesSaid : Prop := aluTakesRow.holds Try.pinned (OpenSpec.ofChange aluTakesSpec)

/-- ITS FALSE NEIGHBOUR: 'it returns false'. Refute it at one input. -/
def aluTakesWrong : ChangeSpec := { name := "aluTakes", fn := fun _ => fun
  | [d1, d2, d3] => { results := [.lit (.bool false)], args := [d1, d2, d3] }
  | _ => none }
def AluTakesWrongFalsely : Prop := aluTakesRow.holds Try.pinned (OpenSpec.ofChange aluTakesWrong)

/-- 'vireolaw05.AluExtends': WHATEVER THE INPUT: true; the input reads as it did. -/
def aluExtendsSpec : ChangeSpec := { name := "aluExtends", fn := fun _ => fun
  | [d1, d2] => { results := [.lit (.bool true)], args := [d1, d2] }
  | _ => none }
def aluExtendsRow : OpenClaim := { program := "ytijckgnhkmgpnaa", sum := "76f48454b0a07c28991cbad410643a8d5668fe607686547b22868628c8cecc2b", func := "vireo/vireolaw05.AluExtends", spec := "aluExtends", apart := false }
def AluExtendsSaid : Prop := aluExtendsRow.holds Try.pinned (OpenSpec.ofChange aluExtendsSpec)

/-- ITS FALSE NEIGHBOUR: 'it returns false'. Refute it at one input. -/
def aluExtendsWrong : ChangeSpec := { name := "aluExtends", fn := fun _ => fun
  | [d1, d2] => { results := [.lit (.bool false)], args := [d1, d2] }
  | _ => none }
def AluExtendsWrongFalsely : Prop := aluExtendsRow.holds Try.pinned (OpenSpec.ofChange aluExtendsWrong)

/-- 'vireolaw05.AluOpposites': WHATEVER THE INPUT: true; the input reads as it did. -/
def aluOppositesSpec : ChangeSpec := { name := "aluOpposites", fn := fun _ => fun
  | [d1, d2] => { results := [.lit (.bool true)], args := [d1, d2] }
  | _ => none }
def aluOppositesRow : OpenClaim := { program := "ytijckgnhkmgpnaa", sum := "76f48454b0a07c28991cbad410643a8d5668fe607686547b22868628c8cecc2b", func := "vireo/vireolaw05.AluOpposites", spec := "aluOpposites", apart := false }
def AluOppositesSaid : Prop := aluOppositesRow.holds Try.pinned (OpenSpec.ofChange aluOppositesSpec)

/-- ITS FALSE NEIGHBOUR: 'it returns false'. Refute it at one input. -/
def aluOppositesWrong : ChangeSpec := { name := "aluOpposites", fn := fun _ => fun
  | [d1, d2] => { results := [.lit (.bool false)], args := [d1, d2] }
  | _ => none }
def AluOppositesWrongFalsely : Prop := aluOppositesRow.holds Try.pinned (OpenSpec.ofChange aluOppositesWrong)

/-- 'vireolaw05.AluUndoes': WHATEVER THE INPUT: true; the input reads as it did. -/
def aluUndoesSpec : ChangeSpec := { name := "aluUndoes", fn := fun _ => fun
  | [d1, d2] => { results := [.lit (.bool true)], args := [d1, d2] }
  | _ => none }
def aluUndoesRow : OpenClaim := { program := "ytijckgnhkmgpnaa", sum := "76f48454b0a07c28991cbad410643a8d5668fe607686547b22868628c8cecc2b", func := "vireo/vireolaw05.AluUndoes", spec := "aluUndoes", apart := false }
def AluUndoesSaid : Prop := aluUndoesRow.holds Try.pinned (OpenSpec.ofChange aluUndoesSpec)

/-- ITS FALSE NEIGHBOUR: 'it returns false'. Refute it at one input. -/
def aluUndoesWrong : ChangeSpec := { name := "aluUndoes", fn := fun _ => fun
  | [d1, d2] => { results := [.lit (.bool false)], args := [d1, d2] }
  | _ => none }
def AluUndoesWrongFalsely : Prop := aluUndoesRow.holds Try.pinned (OpenSpec.ofChange aluUndoesWrong)

/-- 'vireolaw05.AluNumbers': WHATEVER THE INPUT: true; the input reads as it did. -/
def aluNumbersSpec : ChangeSpec := { name := "aluNumbers", fn := fun _ => fun
  | [d1, d2, d3] => { results := [.lit (.bool true)], args := [d1, d2, d3] }
  | _ => none }
def aluNumbersRow : OpenClaim := { program := "ytijckgnhkmgpnaa", sum := "76f48454b0a07c28991cbad410643a8d5668fe607686547b22868628c8cecc2b", func := "vireo/vireolaw05.AluNumbers", spec := "aluNumbers", apart := false }
def AluNumbersSaid : Prop := aluNumbersRow.holds Try.pinned (OpenSpec.ofChange aluNumbersSpec)

/-- ITS FALSE NEIGHBOUR: 'it returns false'. Refute it at one input. -/
def aluNumbersWrong : ChangeSpec := { name := "aluNumbers", fn := fun _ => fun
  | [d1, d2, d3] => { results := [.lit (.bool false)], args := [d1, d2, d3] }
  | _ => none }
def AluNumbersWrongFalsely : Prop := aluNumbersRow.holds Try.pinned (OpenSpec.ofChange aluNumbersWrong)

/- THE SECOND FORM. 'bulk': how many values and letters a reading holds, each counted each time it is reached (what is shared counts as often as it is met; a slice's spare places count too). A statement '..UptoSaid' is the law's where the arguments, and the package variables that the reading takes, are together of bulk at most 1048576: NARROWER than '..Said'. Prove '..Said' where nothing that the law and all that it calls make is longer than what came in: it says more and counts as full. Else prove '..UptoSaid'. A law counts once. -/
mutual
def uptoBulk {H : Type} : DataW H → Nat
  | .lit (.string bytes) => bytes.length + 1
  | .lit _ => 1
  | .nil => 1
  | .ptr d => uptoBulk d + 1
  | .slice elems spare => uptoBulkAll elems + uptoBulkAll spare + 1
  | .agg parts => uptoBulkAll parts + 1
  | .iface _ d => uptoBulk d + 1
  | .map entries => uptoBulkEntries entries + 1
  | .held _ => 1
def uptoBulkAll {H : Type} : List (DataW H) → Nat
  | [] => 0
  | d :: r => uptoBulk d + uptoBulkAll r
def uptoBulkEntries {H : Type} : List (Lit × DataW H) → Nat
  | [] => 0
  | x :: r => uptoBulkEntry x + uptoBulkEntries r
def uptoBulkEntry {H : Type} : Lit × DataW H → Nat
  | (.string bytes, d) => bytes.length + uptoBulk d + 1
  | (_, d) => uptoBulk d + 1
 end
def uptoSmall : (H : Type) → List (DataW H) → Bool := fun _ ds => decide (uptoBulkAll ds ≤ 1048576)
def OpenSpec.upto (s : _root_.Go.ChangeSpec) : _root_.Go.OpenSpec := { _root_.Go.OpenSpec.ofChange s with cond := some uptoSmall }

/-- 'vireolaw05.AluDoes', WHERE WHAT IT READS IS OF BULK AT MOST 1048576: true; the input reads as it did. -/
def aluDoesUptoRow : OpenClaim := { program := "ytijckgnhkmgpnaa", sum := "76f48454b0a07c28991cbad410643a8d5668fe607686547b22868628c8cecc2b", func := "vireo/vireolaw05.AluDoes", spec := "aluDoes", apart := false, narrowed := true }
def AluDoesUptoSaid : Prop := aluDoesUptoRow.holds Try.pinned (OpenSpec.upto aluDoesSpec)

/-- 'vireolaw05.AluTakes', WHERE WHAT IT READS IS OF BULK AT MOST 1048576: true; the input reads as it did. -/
def aluTakesUptoRow : OpenClaim := { program := "ytijckgnhkmgpnaa", sum := "76f48454b0a07c28991cbad410643a8d5668fe607686547b22868628c8cecc2b", func := "vireo/vireolaw05.AluTakes", spec := "aluTakes", apart := false, narrowed := true }
def AluTakesUptoSaid : Prop := aluTakesUptoRow.holds Try.pinned (OpenSpec.upto aluTakesSpec)

/-- 'vireolaw05.AluExtends', WHERE WHAT IT READS IS OF BULK AT MOST 1048576: true; the input reads as it did. -/
def aluExtendsUptoRow : OpenClaim := { program := "ytijckgnhkmgpnaa", sum := "76f48454b0a07c28991cbad410643a8d5668fe607686547b22868628c8cecc2b", func := "vireo/vireolaw05.AluExtends", spec := "aluExtends", apart := false, narrowed := true }
def AluExtendsUptoSaid : Prop := aluExtendsUptoRow.holds Try.pinned (OpenSpec.upto aluExtendsSpec)

/-- 'vireolaw05.AluOpposites', WHERE WHAT IT READS IS OF BULK AT MOST 1048576: true; the input reads as it did. -/
def aluOppositesUptoRow : OpenClaim := { program := "ytijckgnhkmgpnaa", sum := "76f48454b0a07c28991cbad410643a8d5668fe607686547b22868628c8cecc2b", func := "vireo/vireolaw05.AluOpposites", spec := "aluOpposites", apart := false, narrowed := true }
def AluOppositesUptoSaid : Prop := aluOppositesUptoRow.holds Try.pinned (OpenSpec.upto aluOppositesSpec)

/-- 'vireolaw05.AluUndoes', WHERE WHAT IT READS IS OF BULK AT MOST 1048576: true; the input reads as it did. -/
def aluUndoesUptoRow : OpenClaim := { program := "ytijckgnhkmgpnaa", sum := "76f48454b0a07c28991cbad410643a8d5668fe607686547b22868628c8cecc2b", func := "vireo/vireolaw05.AluUndoes", spec := "aluUndoes", apart := false, narrowed := true }
def AluUndoesUptoSaid : Prop := aluUndoesUptoRow.holds Try.pinned (OpenSpec.upto aluUndoesSpec)

/-- 'vireolaw05.AluNumbers', WHERE WHAT IT READS IS OF BULK AT MOST 1048576: true; the input reads as it did. -/
def aluNumbersUptoRow : OpenClaim := { program := "ytijckgnhkmgpnaa", sum := "76f48454b0a07c28991cbad410643a8d5668fe607686547b22868628c8cecc2b", func := "vireo/vireolaw05.AluNumbers", spec := "aluNumbers", apart := false, narrowed := true }
def AluNumbersUptoSaid : Prop := aluNumbersUptoRow.holds Try.pinned (OpenSpec.upto aluNumbersSpec)

end Rows
end Go.Proofs.Ytijckgnhkmgpnaa
