/-
  No cell of these rows narrows 'for every input' (looked for: loops, veiled, ifaces, maps, wideKeys, modest, calm, conditions, laid).
  DERIVED. THE GIVEN ROWS OF THIS SEAT. 6 by the template 'for every input the law returns true; each argument reads behind the call as it read before'; 0 by the template 'total and deterministic' (their statements: YtnknfepbekaobaaTotals.lean).
  GIVEN WITH THE SEED: the statements are not yours to turn. If you find one false, say at which input.
  Laid BY PROGRAM, IN A SANDBOX (cutbox-rows.mjs): the forced cells as the released guide's own fill.sh prints them over the translation b35855b5bdf25721… (all of the seat's roots in one cut). By AI agents, Wed Nov 11 2026. No macro, syntax, notation, axiom, sorry.
-/
import Derived.Test.YtnknfepbekaobaaChecked
import GoSem.Claim
import GoSem.ClaimJoined
import GoSem.ClaimMapViews
import Derived.JoinedTies
import Derived.KernelRfl
namespace Go.Proofs.Ytnknfepbekaobaa
/- THE CELL 'sum', in the pinned program and in every row, IS THE sha256 OF THE DUMP (.gsa) THAT YtnknfepbekaobaaProg.lean LOADS. Nothing in Lean hashes anything: it is a label: what it is worth is what the hold of that sum in a sandbox is worth. -/
noncomputable def Try.pinned : Pinned := { name := "ytnknfepbekaobaa", sum := "b35855b5bdf25721560decc80e64e67196bb287971963dfe722cb78cae077fb4", checked := Try.checked }
namespace Rows
def none {H : Type} : Left H := { results := [], args := [] }

/-- 'vireolaw09.TrapEnters': WHATEVER THE INPUT: true; the input reads as it did. -/
def trapEntersSpec : ChangeSpec := { name := "trapEnters", fn := fun _ => fun
  | [d1, d2, d3] => { results := [.lit (.bool true)], args := [d1, d2, d3] }
  | _ => none }
def trapEntersRow : OpenClaim := { program := "ytnknfepbekaobaa", sum := "b35855b5bdf25721560decc80e64e67196bb287971963dfe722cb78cae077fb4", func := "vireo/vireolaw09.TrapEnters", spec := "trapEnters", apart := false }
def TrapEntersSaid : Prop := trapEntersRow.holds Try.pinned (OpenSpec.ofChange trapEntersSpec)

/-- ITS FALSE NEIGHBOUR: 'it returns false'. Refute it at one input. -/
def trapEntersWrong : ChangeSpec := { name := "trapEnters", fn := fun _ => fun
  | [d1, d2, d3] => { results := [.lit (.bool false)], args := [d1, d2, d3] }
  | _ => none }
def TrapEntersWrongFalsely : Prop := trapEntersRow.holds Try.pinned (OpenSpec.ofChange trapEntersWrong)

/-- 'vireolaw09.TrapNext': WHATEVER THE INPUT: true; the input reads as it did. -/
def trapNextSpec : ChangeSpec := { name := "trapNext", fn := fun _ => fun
  | [d] => { results := [.lit (.bool true)], args := [d] }
  | _ => none }
def trapNextRow : OpenClaim := { program := "ytnknfepbekaobaa", sum := "b35855b5bdf25721560decc80e64e67196bb287971963dfe722cb78cae077fb4", func := "vireo/vireolaw09.TrapNext", spec := "trapNext", apart := false }
def TrapNextSaid : Prop := trapNextRow.holds Try.pinned (OpenSpec.ofChange trapNextSpec)

/-- ITS FALSE NEIGHBOUR: 'it returns false'. Refute it at one input. -/
def trapNextWrong : ChangeSpec := { name := "trapNext", fn := fun _ => fun
  | [d] => { results := [.lit (.bool false)], args := [d] }
  | _ => none }
def TrapNextWrongFalsely : Prop := trapNextRow.holds Try.pinned (OpenSpec.ofChange trapNextWrong)

/-- 'vireolaw09.TrapMasks': WHATEVER THE INPUT: true; the input reads as it did. -/
def trapMasksSpec : ChangeSpec := { name := "trapMasks", fn := fun _ => fun
  | [d] => { results := [.lit (.bool true)], args := [d] }
  | _ => none }
def trapMasksRow : OpenClaim := { program := "ytnknfepbekaobaa", sum := "b35855b5bdf25721560decc80e64e67196bb287971963dfe722cb78cae077fb4", func := "vireo/vireolaw09.TrapMasks", spec := "trapMasks", apart := false }
def TrapMasksSaid : Prop := trapMasksRow.holds Try.pinned (OpenSpec.ofChange trapMasksSpec)

/-- ITS FALSE NEIGHBOUR: 'it returns false'. Refute it at one input. -/
def trapMasksWrong : ChangeSpec := { name := "trapMasks", fn := fun _ => fun
  | [d] => { results := [.lit (.bool false)], args := [d] }
  | _ => none }
def TrapMasksWrongFalsely : Prop := trapMasksRow.holds Try.pinned (OpenSpec.ofChange trapMasksWrong)

/-- 'vireolaw09.TrapReturns': WHATEVER THE INPUT: true; the input reads as it did. -/
def trapReturnsSpec : ChangeSpec := { name := "trapReturns", fn := fun _ => fun
  | [d1, d2] => { results := [.lit (.bool true)], args := [d1, d2] }
  | _ => none }
def trapReturnsRow : OpenClaim := { program := "ytnknfepbekaobaa", sum := "b35855b5bdf25721560decc80e64e67196bb287971963dfe722cb78cae077fb4", func := "vireo/vireolaw09.TrapReturns", spec := "trapReturns", apart := false }
def TrapReturnsSaid : Prop := trapReturnsRow.holds Try.pinned (OpenSpec.ofChange trapReturnsSpec)

/-- ITS FALSE NEIGHBOUR: 'it returns false'. Refute it at one input. -/
def trapReturnsWrong : ChangeSpec := { name := "trapReturns", fn := fun _ => fun
  | [d1, d2] => { results := [.lit (.bool false)], args := [d1, d2] }
  | _ => none }
def TrapReturnsWrongFalsely : Prop := trapReturnsRow.holds Try.pinned (OpenSpec.ofChange trapReturnsWrong)

/-- 'vireolaw09.TrapBack': WHATEVER THE INPUT: true; the input reads as it did. -/
def trapBackSpec : ChangeSpec := { name := "trapBack", fn := fun _ => fun
  | [d1, d2, d3] => { results := [.lit (.bool true)], args := [d1, d2, d3] }
  | _ => none }
def trapBackRow : OpenClaim := { program := "ytnknfepbekaobaa", sum := "b35855b5bdf25721560decc80e64e67196bb287971963dfe722cb78cae077fb4", func := "vireo/vireolaw09.TrapBack", spec := "trapBack", apart := false }
def TrapBackSaid : Prop := trapBackRow.holds Try.pinned (OpenSpec.ofChange trapBackSpec)

/-- ITS FALSE NEIGHBOUR: 'it returns false'. Refute it at one input. -/
def trapBackWrong : ChangeSpec := { name := "trapBack", fn := fun _ => fun
  | [d1, d2, d3] => { results := [.lit (.bool false)], args := [d1, d2, d3] }
  | _ => none }
def TrapBackWrongFalsely : Prop := trapBackRow.holds Try.pinned (OpenSpec.ofChange trapBackWrong)

/-- 'vireolaw09.TrapAsks': WHATEVER THE INPUT: true; the input reads as it did. -/
def trapAsksSpec : ChangeSpec := { name := "trapAsks", fn := fun _ => fun
  | [d1, d2, d3] => { results := [.lit (.bool true)], args := [d1, d2, d3] }
  | _ => none }
def trapAsksRow : OpenClaim := { program := "ytnknfepbekaobaa", sum := "b35855b5bdf25721560decc80e64e67196bb287971963dfe722cb78cae077fb4", func := "vireo/vireolaw09.TrapAsks", spec := "trapAsks", apart := false }
def TrapAsksSaid : Prop := trapAsksRow.holds Try.pinned (OpenSpec.ofChange trapAsksSpec)

/-- ITS FALSE NEIGHBOUR: 'it returns false'. Refute it at one input. -/
def trapAsksWrong : ChangeSpec := { name := "trapAsks", fn := fun _ => fun
  | [d1, d2, d3] => { results := [.lit (.bool false)], args := [d1, d2, d3] }
  | _ => none }
def TrapAsksWrongFalsely : Prop := trapAsksRow.holds Try.pinned (OpenSpec.ofChange trapAsksWrong)

/- THE SECOND FORM. 'bulk': how many values and letters a reading holds, each counted each time it is reached (what is shared counts as often as it is met; a slice's spare places count too). A statement '..UptoSaid' is the law's where the arguments, and the package variables that the reading takes, are together of bulk at most 1048576: NARROWER than '..Said'. Prove '..Said' where nothing that the law and all that it calls make is longer than what came in: it says more and counts as full. Else prove '..UptoSaid'. A law counts once. -/
mutual
def uptoBulk {H : Type} : DataW H → Nat
  | .lit (.string bytes) => bytes.length + 1
  | .lit _ => 1
  | .nil => 1
  | .ptr d => uptoBulk d + 1
  | .slice elems spare => uptoBulkAll elems + uptoBulkAll spare + 1
  | .agg parts => uptoBulkAll parts + 1
  | .iface _ d => uptoBulk d + 1
  | .map entries => uptoBulkEntries entries + 1
  | .held _ => 1
def uptoBulkAll {H : Type} : List (DataW H) → Nat
  | [] => 0
  | d :: r => uptoBulk d + uptoBulkAll r
def uptoBulkEntries {H : Type} : List (Lit × DataW H) → Nat
  | [] => 0
  | x :: r => uptoBulkEntry x + uptoBulkEntries r
def uptoBulkEntry {H : Type} : Lit × DataW H → Nat
  | (.string bytes, d) => bytes.length + uptoBulk d + 1
  | (_, d) => uptoBulk d + 1
 end
def uptoSmall : (H : Type) → List (DataW H) → Bool := fun _ ds => decide (uptoBulkAll ds ≤ 1048576)
def OpenSpec.upto (s : _root_.Go.ChangeSpec) : _root_.Go.OpenSpec := { _root_.Go.OpenSpec.ofChange s with cond := some uptoSmall }

/-- 'vireolaw09.TrapEnters', WHERE WHAT IT READS IS OF BULK AT MOST 1048576: true; the input reads as it did. -/
def trapEntersUptoRow : OpenClaim := { program := "ytnknfepbekaobaa", sum := "b35855b5bdf25721560decc80e64e67196bb287971963dfe722cb78cae077fb4", func := "vireo/vireolaw09.TrapEnters", spec := "trapEnters", apart := false, narrowed := true }
def TrapEntersUptoSaid : Prop := trapEntersUptoRow.holds Try.pinned (OpenSpec.upto trapEntersSpec)

/-- 'vireolaw09.TrapNext', WHERE WHAT IT READS IS OF BULK AT MOST 1048576: true; the input reads as it did. -/
def trapNextUptoRow : OpenClaim := { program := "ytnknfepbekaobaa", sum := "b35855b5bdf25721560decc80e64e67196bb287971963dfe722cb78cae077fb4", func := "vireo/vireolaw09.TrapNext", spec := "trapNext", apart := false, narrowed := true }
def TrapNextUptoSaid : Prop := trapNextUptoRow.holds Try.pinned (OpenSpec.upto trapNextSpec)

/-- 'vireolaw09.TrapMasks', WHERE WHAT IT READS IS OF BULK AT MOST 1048576: true; the input reads as it did. -/
def trapMasksUptoRow : OpenClaim := { program := "ytnknfepbekaobaa", sum := "b35855b5bdf25721560decc80e64e67196bb287971963dfe722cb78cae077fb4", func := "vireo/vireolaw09.TrapMasks", spec := "trapMasks", apart := false, narrowed := true }
def TrapMasksUptoSaid : Prop := trapMasksUptoRow.holds Try.pinned (OpenSpec.upto trapMasksSpec)

/-- 'vireolaw09.TrapReturns', WHERE WHAT IT READS IS OF BULK AT MOST 1048576: true; the input reads as it did. -/
def trapReturnsUptoRow : OpenClaim := { program := "ytnknfepbekaobaa", sum := "b35855b5bdf25721560decc80e64e67196bb287971963dfe722cb78cae077fb4", func := "vireo/vireolaw09.TrapReturns", spec := "trapReturns", apart := false, narrowed := true }
def TrapReturnsUptoSaid : Prop := trapReturnsUptoRow.holds Try.pinned (OpenSpec.upto trapReturnsSpec)

/-- 'vireolaw09.TrapBack', WHERE WHAT IT READS IS OF BULK AT MOST 1048576: true; the input reads as it did. -/
def trapBackUptoRow : OpenClaim := { program := "ytnknfepbekaobaa", sum := "b35855b5bdf25721560decc80e64e67196bb287971963dfe722cb78cae077fb4", func := "vireo/vireolaw09.TrapBack", spec := "trapBack", apart := false, narrowed := true }
def TrapBackUptoSaid : Prop := trapBackUptoRow.holds Try.pinned (OpenSpec.upto trapBackSpec)

/-- 'vireolaw09.TrapAsks', WHERE WHAT IT READS IS OF BULK AT MOST 1048576: true; the input reads as it did. -/
def trapAsksUptoRow : OpenClaim := { program := "ytnknfepbekaobaa", sum := "b35855b5bdf25721560decc80e64e67196bb287971963dfe722cb78cae077fb4", func := "vireo/vireolaw09.TrapAsks", spec := "trapAsks", apart := false, narrowed := true }
def TrapAsksUptoSaid : Prop := trapAsksUptoRow.holds Try.pinned (OpenSpec.upto trapAsksSpec)

end Rows
end Go.Proofs.Ytnknfepbekaobaa
