/-
  No cell of these rows narrows 'for every input' (looked for: loops, veiled, ifaces, maps, wideKeys, modest, calm, conditions, laid).
  DERIVED. THE GIVEN ROWS OF THIS SEAT. 7 by the template 'for every input the law returns true; each argument reads behind the call as it read before'; 0 by the template 'total and deterministic' (their statements: YtkbnoeebnmphbaaTotals.lean).
  GIVEN WITH THE SEED: the statements are not yours to turn. If you find one false, say at which input.
  Laid BY PROGRAM, IN A SANDBOX (cutbox-rows.mjs): the forced cells as the released guide's own fill.sh prints them over the translation f7bda854c32d71fd… (all of the seat's roots in one cut). By AI agents, Wed Nov 11 2026. No macro, syntax, notation, axiom, sorry.
-/
import Derived.Test.YtkbnoeebnmphbaaChecked
import GoSem.Claim
import GoSem.ClaimJoined
import GoSem.ClaimMapViews
import Derived.JoinedTies
import Derived.KernelRfl
namespace Go.Proofs.Ytkbnoeebnmphbaa
/- THE CELL 'sum', in the pinned program and in every row, IS THE sha256 OF THE DUMP (.gsa) THAT YtkbnoeebnmphbaaProg.lean LOADS. Nothing in Lean hashes anything: it is a label: what it is worth is what the hold of that sum in a sandbox is worth. -/
noncomputable def Try.pinned : Pinned := { name := "ytkbnoeebnmphbaa", sum := "f7bda854c32d71fd7e3403f5dc43399f0657bea51b56fd60ac1fa0aa5da52602", checked := Try.checked }
namespace Rows
def none {H : Type} : Left H := { results := [], args := [] }

/-- 'vireolaw08.CsrNumbers': WHATEVER THE INPUT: true; the input reads as it did. -/
def csrNumbersSpec : ChangeSpec := { name := "csrNumbers", fn := fun _ => fun
  | [d] => { results := [.lit (.bool true)], args := [d] }
  | _ => none }
def csrNumbersRow : OpenClaim := { program := "ytkbnoeebnmphbaa", sum := "f7bda854c32d71fd7e3403f5dc43399f0657bea51b56fd60ac1fa0aa5da52602", func := "vireo/vireolaw08.CsrNumbers", spec := "csrNumbers", apart := false }
def CsrNumbersSaid : Prop := csrNumbersRow.holds Try.pinned (OpenSpec.ofChange csrNumbersSpec)

/-- ITS FALSE NEIGHBOUR: 'it returns false'. Refute it at one input. -/
def csrNumbersWrong : ChangeSpec := { name := "csrNumbers", fn := fun _ => fun
  | [d] => { results := [.lit (.bool false)], args := [d] }
  | _ => none }
def CsrNumbersWrongFalsely : Prop := csrNumbersRow.holds Try.pinned (OpenSpec.ofChange csrNumbersWrong)

/-- 'vireolaw08.CsrPlays': WHATEVER THE INPUT: true; the input reads as it did. -/
def csrPlaysSpec : ChangeSpec := { name := "csrPlays", fn := fun _ => fun
  | [d] => { results := [.lit (.bool true)], args := [d] }
  | _ => none }
def csrPlaysRow : OpenClaim := { program := "ytkbnoeebnmphbaa", sum := "f7bda854c32d71fd7e3403f5dc43399f0657bea51b56fd60ac1fa0aa5da52602", func := "vireo/vireolaw08.CsrPlays", spec := "csrPlays", apart := false }
def CsrPlaysSaid : Prop := csrPlaysRow.holds Try.pinned (OpenSpec.ofChange csrPlaysSpec)

/-- ITS FALSE NEIGHBOUR: 'it returns false'. Refute it at one input. -/
def csrPlaysWrong : ChangeSpec := { name := "csrPlays", fn := fun _ => fun
  | [d] => { results := [.lit (.bool false)], args := [d] }
  | _ => none }
def CsrPlaysWrongFalsely : Prop := csrPlaysRow.holds Try.pinned (OpenSpec.ofChange csrPlaysWrong)

/-- 'vireolaw08.CsrBeside': WHATEVER THE INPUT: true; the input reads as it did. -/
def csrBesideSpec : ChangeSpec := { name := "csrBeside", fn := fun _ => fun
  | [d1, d2, d3] => { results := [.lit (.bool true)], args := [d1, d2, d3] }
  | _ => none }
def csrBesideRow : OpenClaim := { program := "ytkbnoeebnmphbaa", sum := "f7bda854c32d71fd7e3403f5dc43399f0657bea51b56fd60ac1fa0aa5da52602", func := "vireo/vireolaw08.CsrBeside", spec := "csrBeside", apart := false }
def CsrBesideSaid : Prop := csrBesideRow.holds Try.pinned (OpenSpec.ofChange csrBesideSpec)

/-- ITS FALSE NEIGHBOUR: 'it returns false'. Refute it at one input. -/
def csrBesideWrong : ChangeSpec := { name := "csrBeside", fn := fun _ => fun
  | [d1, d2, d3] => { results := [.lit (.bool false)], args := [d1, d2, d3] }
  | _ => none }
def CsrBesideWrongFalsely : Prop := csrBesideRow.holds Try.pinned (OpenSpec.ofChange csrBesideWrong)

/-- 'vireolaw08.CsrTwice': WHATEVER THE INPUT: true; the input reads as it did. -/
def csrTwiceSpec : ChangeSpec := { name := "csrTwice", fn := fun _ => fun
  | [d1, d2, d3] => { results := [.lit (.bool true)], args := [d1, d2, d3] }
  | _ => none }
def csrTwiceRow : OpenClaim := { program := "ytkbnoeebnmphbaa", sum := "f7bda854c32d71fd7e3403f5dc43399f0657bea51b56fd60ac1fa0aa5da52602", func := "vireo/vireolaw08.CsrTwice", spec := "csrTwice", apart := false }
def CsrTwiceSaid : Prop := csrTwiceRow.holds Try.pinned (OpenSpec.ofChange csrTwiceSpec)

/-- ITS FALSE NEIGHBOUR: 'it returns false'. Refute it at one input. -/
def csrTwiceWrong : ChangeSpec := { name := "csrTwice", fn := fun _ => fun
  | [d1, d2, d3] => { results := [.lit (.bool false)], args := [d1, d2, d3] }
  | _ => none }
def CsrTwiceWrongFalsely : Prop := csrTwiceRow.holds Try.pinned (OpenSpec.ofChange csrTwiceWrong)

/-- 'vireolaw08.CsrBits': WHATEVER THE INPUT: true; the input reads as it did. -/
def csrBitsSpec : ChangeSpec := { name := "csrBits", fn := fun _ => fun
  | [d1, d2, d3] => { results := [.lit (.bool true)], args := [d1, d2, d3] }
  | _ => none }
def csrBitsRow : OpenClaim := { program := "ytkbnoeebnmphbaa", sum := "f7bda854c32d71fd7e3403f5dc43399f0657bea51b56fd60ac1fa0aa5da52602", func := "vireo/vireolaw08.CsrBits", spec := "csrBits", apart := false }
def CsrBitsSaid : Prop := csrBitsRow.holds Try.pinned (OpenSpec.ofChange csrBitsSpec)

/-- ITS FALSE NEIGHBOUR: 'it returns false'. Refute it at one input. -/
def csrBitsWrong : ChangeSpec := { name := "csrBits", fn := fun _ => fun
  | [d1, d2, d3] => { results := [.lit (.bool false)], args := [d1, d2, d3] }
  | _ => none }
def CsrBitsWrongFalsely : Prop := csrBitsRow.holds Try.pinned (OpenSpec.ofChange csrBitsWrong)

/-- 'vireolaw08.CsrMay': WHATEVER THE INPUT: true; the input reads as it did. -/
def csrMaySpec : ChangeSpec := { name := "csrMay", fn := fun _ => fun
  | [d1, d2, d3] => { results := [.lit (.bool true)], args := [d1, d2, d3] }
  | _ => none }
def csrMayRow : OpenClaim := { program := "ytkbnoeebnmphbaa", sum := "f7bda854c32d71fd7e3403f5dc43399f0657bea51b56fd60ac1fa0aa5da52602", func := "vireo/vireolaw08.CsrMay", spec := "csrMay", apart := false }
def CsrMaySaid : Prop := csrMayRow.holds Try.pinned (OpenSpec.ofChange csrMaySpec)

/-- ITS FALSE NEIGHBOUR: 'it returns false'. Refute it at one input. -/
def csrMayWrong : ChangeSpec := { name := "csrMay", fn := fun _ => fun
  | [d1, d2, d3] => { results := [.lit (.bool false)], args := [d1, d2, d3] }
  | _ => none }
def CsrMayWrongFalsely : Prop := csrMayRow.holds Try.pinned (OpenSpec.ofChange csrMayWrong)

/-- 'vireolaw08.CsrNames': WHATEVER THE INPUT: true; the input reads as it did. -/
def csrNamesSpec : ChangeSpec := { name := "csrNames", fn := fun _ => fun
  | [d] => { results := [.lit (.bool true)], args := [d] }
  | _ => none }
def csrNamesRow : OpenClaim := { program := "ytkbnoeebnmphbaa", sum := "f7bda854c32d71fd7e3403f5dc43399f0657bea51b56fd60ac1fa0aa5da52602", func := "vireo/vireolaw08.CsrNames", spec := "csrNames", apart := false }
def CsrNamesSaid : Prop := csrNamesRow.holds Try.pinned (OpenSpec.ofChange csrNamesSpec)

/-- ITS FALSE NEIGHBOUR: 'it returns false'. Refute it at one input. -/
def csrNamesWrong : ChangeSpec := { name := "csrNames", fn := fun _ => fun
  | [d] => { results := [.lit (.bool false)], args := [d] }
  | _ => none }
def CsrNamesWrongFalsely : Prop := csrNamesRow.holds Try.pinned (OpenSpec.ofChange csrNamesWrong)

/- THE SECOND FORM. 'bulk': how many values and letters a reading holds, each counted each time it is reached (what is shared counts as often as it is met; a slice's spare places count too). A statement '..UptoSaid' is the law's where the arguments, and the package variables that the reading takes, are together of bulk at most 1048576: NARROWER than '..Said'. Prove '..Said' where nothing that the law and all that it calls make is longer than what came in: it says more and counts as full. Else prove '..UptoSaid'. A law counts once. -/
mutual
def uptoBulk {H : Type} : DataW H → Nat
  | .lit (.string bytes) => bytes.length + 1
  | .lit _ => 1
  | .nil => 1
  | .ptr d => uptoBulk d + 1
  | .slice elems spare => uptoBulkAll elems + uptoBulkAll spare + 1
  | .agg parts => uptoBulkAll parts + 1
  | .iface _ d => uptoBulk d + 1
  | .map entries => uptoBulkEntries entries + 1
  | .held _ => 1
def uptoBulkAll {H : Type} : List (DataW H) → Nat
  | [] => 0
  | d :: r => uptoBulk d + uptoBulkAll r
def uptoBulkEntries {H : Type} : List (Lit × DataW H) → Nat
  | [] => 0
  | x :: r => uptoBulkEntry x + uptoBulkEntries r
def uptoBulkEntry {H : Type} : Lit × DataW H → Nat
  | (.string bytes, d) => bytes.length + uptoBulk d + 1
  | (_, d) => uptoBulk d + 1
 end
def uptoSmall : (H : Type) → List (DataW H) → Bool := fun _ ds => decide (uptoBulkAll ds ≤ 1048576)
def OpenSpec.upto (s : _root_.Go.ChangeSpec) : _root_.Go.OpenSpec := { _root_.Go.OpenSpec.ofChange s with cond := some uptoSmall }

/-- 'vireolaw08.CsrNumbers', WHERE WHAT IT READS IS OF BULK AT MOST 1048576: true; the input reads as it did. -/
def csrNumbersUptoRow : OpenClaim := { program := "ytkbnoeebnmphbaa", sum := "f7bda854c32d71fd7e3403f5dc43399f0657bea51b56fd60ac1fa0aa5da52602", func := "vireo/vireolaw08.CsrNumbers", spec := "csrNumbers", apart := false, narrowed := true }
def CsrNumbersUptoSaid : Prop := csrNumbersUptoRow.holds Try.pinned (OpenSpec.upto csrNumbersSpec)

/-- 'vireolaw08.CsrPlays', WHERE WHAT IT READS IS OF BULK AT MOST 1048576: true; the input reads as it did. -/
def csrPlaysUptoRow : OpenClaim := { program := "ytkbnoeebnmphbaa", sum := "f7bda854c32d71fd7e3403f5dc43399f0657bea51b56fd60ac1fa0aa5da52602", func := "vireo/vireolaw08.CsrPlays", spec := "csrPlays", apart := false, narrowed := true }
def CsrPlaysUptoSaid : Prop := csrPlaysUptoRow.holds Try.pinned (OpenSpec.upto csrPlaysSpec)

/-- 'vireolaw08.CsrBeside', WHERE WHAT IT READS IS OF BULK AT MOST 1048576: true; the input reads as it did. -/
def csrBesideUptoRow : OpenClaim := { program := "ytkbnoeebnmphbaa", sum := "f7bda854c32d71fd7e3403f5dc43399f0657bea51b56fd60ac1fa0aa5da52602", func := "vireo/vireolaw08.CsrBeside", spec := "csrBeside", apart := false, narrowed := true }
def CsrBesideUptoSaid : Prop := csrBesideUptoRow.holds Try.pinned (OpenSpec.upto csrBesideSpec)

/-- 'vireolaw08.CsrTwice', WHERE WHAT IT READS IS OF BULK AT MOST 1048576: true; the input reads as it did. -/
def csrTwiceUptoRow : OpenClaim := { program := "ytkbnoeebnmphbaa", sum := "f7bda854c32d71fd7e3403f5dc43399f0657bea51b56fd60ac1fa0aa5da52602", func := "vireo/vireolaw08.CsrTwice", spec := "csrTwice", apart := false, narrowed := true }
def CsrTwiceUptoSaid : Prop := csrTwiceUptoRow.holds Try.pinned (OpenSpec.upto csrTwiceSpec)

/-- 'vireolaw08.CsrBits', WHERE WHAT IT READS IS OF BULK AT MOST 1048576: true; the input reads as it did. -/
def csrBitsUptoRow : OpenClaim := { program := "ytkbnoeebnmphbaa", sum := "f7bda854c32d71fd7e3403f5dc43399f0657bea51b56fd60ac1fa0aa5da52602", func := "vireo/vireolaw08.CsrBits", spec := "csrBits", apart := false, narrowed := true }
def CsrBitsUptoSaid : Prop := csrBitsUptoRow.holds Try.pinned (OpenSpec.upto csrBitsSpec)

/-- 'vireolaw08.CsrMay', WHERE WHAT IT READS IS OF BULK AT MOST 1048576: true; the input reads as it did. -/
def csrMayUptoRow : OpenClaim := { program := "ytkbnoeebnmphbaa", sum := "f7bda854c32d71fd7e3403f5dc43399f0657bea51b56fd60ac1fa0aa5da52602", func := "vireo/vireolaw08.CsrMay", spec := "csrMay", apart := false, narrowed := true }
def CsrMayUptoSaid : Prop := csrMayUptoRow.holds Try.pinned (OpenSpec.upto csrMaySpec)

/-- 'vireolaw08.CsrNames', WHERE WHAT IT READS IS OF BULK AT MOST 1048576: true; the input reads as it did. -/
def csrNamesUptoRow : OpenClaim := { program := "ytkbnoeebnmphbaa", sum := "f7bda854c32d71fd7e3403f5dc43399f0657bea51b56fd60ac1fa0aa5da52602", func := "vireo/vireolaw08.CsrNames", spec := "csrNames", apart := false, narrowed := true }
def CsrNamesUptoSaid : Prop := csrNamesUptoRow.holds Try.pinned (OpenSpec.upto csrNamesSpec)

end Rows
end Go.Proofs.Ytkbnoeebnmphbaa
