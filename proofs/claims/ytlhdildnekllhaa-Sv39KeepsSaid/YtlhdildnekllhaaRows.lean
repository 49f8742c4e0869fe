/-
  No cell of these rows narrows 'for every input' (looked for: loops, veiled, ifaces, maps, wideKeys, modest, calm, conditions, laid).
  DERIVED. THE GIVEN ROWS OF THIS SEAT. 5 by the template 'for every input the law returns true; each argument reads behind the call as it read before'; 0 by the template 'total and deterministic' (their statements: YtlhdildnekllhaaTotals.lean).
  GIVEN WITH THE SEED: the statements are not yours to turn. If you find one false, say at which input.
  Laid BY PROGRAM, IN A SANDBOX (cutbox-rows.mjs): the forced cells as the released guide's own fill.sh prints them over the translation 8a1bc79742af571e… (all of the seat's roots in one cut). By AI agents, Wed Nov 11 2026. No macro, syntax, notation, axiom, sorry.
-/
import Derived.Test.YtlhdildnekllhaaChecked
import GoSem.Claim
import GoSem.ClaimJoined
import GoSem.ClaimMapViews
import Derived.JoinedTies
import Derived.KernelRfl
namespace Go.Proofs.Ytlhdildnekllhaa
/- THE CELL 'sum', in the pinned program and in every row, IS THE sha256 OF THE DUMP (.gsa) THAT YtlhdildnekllhaaProg.lean LOADS. Nothing in Lean hashes anything: it is a label: what it is worth is what the hold of that sum in a sandbox is worth. -/
noncomputable def Try.pinned : Pinned := { name := "ytlhdildnekllhaa", sum := "8a1bc79742af571ed4c3ed86d2f1309732c0860d5d502f2362cfd9eb8db4a2f2", checked := Try.checked }
namespace Rows
def none {H : Type} : Left H := { results := [], args := [] }

/-- 'vireolaw10.Sv39Walks': WHATEVER THE INPUT: true; the input reads as it did. -/
def sv39WalksSpec : ChangeSpec := { name := "sv39Walks", fn := fun _ => fun
  | [d1, d2, d3] => { results := [.lit (.bool true)], args := [d1, d2, d3] }
  | _ => none }
def sv39WalksRow : OpenClaim := { program := "ytlhdildnekllhaa", sum := "8a1bc79742af571ed4c3ed86d2f1309732c0860d5d502f2362cfd9eb8db4a2f2", func := "vireo/vireolaw10.Sv39Walks", spec := "sv39Walks", recurses := true, apart := false }
def Sv39WalksSaid : Prop := sv39WalksRow.holds Try.pinned (OpenSpec.ofChange sv39WalksSpec)

/-- ITS FALSE NEIGHBOUR: 'it returns false'. Refute it at one input. -/
def sv39WalksWrong : ChangeSpec := { name := "sv39Walks", fn := fun _ => fun
  | [d1, d2, d3] => { results := [.lit (.bool false)], args := [d1, d2, d3] }
  | _ => none }
def Sv39WalksWrongFalsely : Prop := sv39WalksRow.holds Try.pinned (OpenSpec.ofChange sv39WalksWrong)

/-- 'vireolaw10.Sv39Rights': WHATEVER THE INPUT: true; the input reads as it did. -/
def sv39RightsSpec : ChangeSpec := { name := "sv39Rights", fn := fun _ => fun
  | [d1, d2, d3] => { results := [.lit (.bool true)], args := [d1, d2, d3] }
  | _ => none }
def sv39RightsRow : OpenClaim := { program := "ytlhdildnekllhaa", sum := "8a1bc79742af571ed4c3ed86d2f1309732c0860d5d502f2362cfd9eb8db4a2f2", func := "vireo/vireolaw10.Sv39Rights", spec := "sv39Rights", apart := false }
def Sv39RightsSaid : Prop := sv39RightsRow.holds Try.pinned (OpenSpec.ofChange sv39RightsSpec)

/-- ITS FALSE NEIGHBOUR: 'it returns false'. Refute it at one input. -/
def sv39RightsWrong : ChangeSpec := { name := "sv39Rights", fn := fun _ => fun
  | [d1, d2, d3] => { results := [.lit (.bool false)], args := [d1, d2, d3] }
  | _ => none }
def Sv39RightsWrongFalsely : Prop := sv39RightsRow.holds Try.pinned (OpenSpec.ofChange sv39RightsWrong)

/-- 'vireolaw10.Sv39Makes': WHATEVER THE INPUT: true; the input reads as it did. -/
def sv39MakesSpec : ChangeSpec := { name := "sv39Makes", fn := fun _ => fun
  | [d1, d2] => { results := [.lit (.bool true)], args := [d1, d2] }
  | _ => none }
def sv39MakesRow : OpenClaim := { program := "ytlhdildnekllhaa", sum := "8a1bc79742af571ed4c3ed86d2f1309732c0860d5d502f2362cfd9eb8db4a2f2", func := "vireo/vireolaw10.Sv39Makes", spec := "sv39Makes", apart := false }
def Sv39MakesSaid : Prop := sv39MakesRow.holds Try.pinned (OpenSpec.ofChange sv39MakesSpec)

/-- ITS FALSE NEIGHBOUR: 'it returns false'. Refute it at one input. -/
def sv39MakesWrong : ChangeSpec := { name := "sv39Makes", fn := fun _ => fun
  | [d1, d2] => { results := [.lit (.bool false)], args := [d1, d2] }
  | _ => none }
def Sv39MakesWrongFalsely : Prop := sv39MakesRow.holds Try.pinned (OpenSpec.ofChange sv39MakesWrong)

/-- 'vireolaw10.Sv39Keeps': WHATEVER THE INPUT: true; the input reads as it did. -/
def sv39KeepsSpec : ChangeSpec := { name := "sv39Keeps", fn := fun _ => fun
  | [d1, d2, d3] => { results := [.lit (.bool true)], args := [d1, d2, d3] }
  | _ => none }
def sv39KeepsRow : OpenClaim := { program := "ytlhdildnekllhaa", sum := "8a1bc79742af571ed4c3ed86d2f1309732c0860d5d502f2362cfd9eb8db4a2f2", func := "vireo/vireolaw10.Sv39Keeps", spec := "sv39Keeps", apart := false }
def Sv39KeepsSaid : Prop := sv39KeepsRow.holds Try.pinned (OpenSpec.ofChange sv39KeepsSpec)

/-- ITS FALSE NEIGHBOUR: 'it returns false'. Refute it at one input. -/
def sv39KeepsWrong : ChangeSpec := { name := "sv39Keeps", fn := fun _ => fun
  | [d1, d2, d3] => { results := [.lit (.bool false)], args := [d1, d2, d3] }
  | _ => none }
def Sv39KeepsWrongFalsely : Prop := sv39KeepsRow.holds Try.pinned (OpenSpec.ofChange sv39KeepsWrong)

/-- 'vireolaw10.Sv39Ways': WHATEVER THE INPUT: true; the input reads as it did. -/
def sv39WaysSpec : ChangeSpec := { name := "sv39Ways", fn := fun _ => fun
  | [d1, d2, d3] => { results := [.lit (.bool true)], args := [d1, d2, d3] }
  | _ => none }
def sv39WaysRow : OpenClaim := { program := "ytlhdildnekllhaa", sum := "8a1bc79742af571ed4c3ed86d2f1309732c0860d5d502f2362cfd9eb8db4a2f2", func := "vireo/vireolaw10.Sv39Ways", spec := "sv39Ways", apart := false }
def Sv39WaysSaid : Prop := sv39WaysRow.holds Try.pinned (OpenSpec.ofChange sv39WaysSpec)

/-- ITS FALSE NEIGHBOUR: 'it returns false'. Refute it at one input. -/
def sv39WaysWrong : ChangeSpec := { name := "sv39Ways", fn := fun _ => fun
  | [d1, d2, d3] => { results := [.lit (.bool false)], args := [d1, d2, d3] }
  | _ => none }
def Sv39WaysWrongFalsely : Prop := sv39WaysRow.holds Try.pinned (OpenSpec.ofChange sv39WaysWrong)

/- THE SECOND FORM. 'bulk': how many values and letters a reading holds, each counted each time it is reached (what is shared counts as often as it is met; a slice's spare places count too). A statement '..UptoSaid' is the law's where the arguments, and the package variables that the reading takes, are together of bulk at most 1048576: NARROWER than '..Said'. Prove '..Said' where nothing that the law and all that it calls make is longer than what came in: it says more and counts as full. Else prove '..UptoSaid'. A law counts once. -/
mutual
def uptoBulk {H : Type} : DataW H → Nat
  | .lit (.string bytes) => bytes.length + 1
  | .lit _ => 1
  | .nil => 1
  | .ptr d => uptoBulk d + 1
  | .slice elems spare => uptoBulkAll elems + uptoBulkAll spare + 1
  | .agg parts => uptoBulkAll parts + 1
  | .iface _ d => uptoBulk d + 1
  | .map entries => uptoBulkEntries entries + 1
  | .held _ => 1
def uptoBulkAll {H : Type} : List (DataW H) → Nat
  | [] => 0
  | d :: r => uptoBulk d + uptoBulkAll r
def uptoBulkEntries {H : Type} : List (Lit × DataW H) → Nat
  | [] => 0
  | x :: r => uptoBulkEntry x + uptoBulkEntries r
def uptoBulkEntry {H : Type} : Lit × DataW H → Nat
  | (.string bytes, d) => bytes.length + uptoBulk d + 1
  | (_, d) => uptoBulk d + 1
 end
def uptoSmall : (H : Type) → List (DataW H) → Bool := fun _ ds => decide (uptoBulkAll ds ≤ 1048576)
def OpenSpec.upto (s : _root_.Go.ChangeSpec) : _root_.Go.OpenSpec := { _root_.Go.OpenSpec.ofChange s with cond := some uptoSmall }

/-- 'vireolaw10.Sv39Walks', WHERE WHAT IT READS IS OF BULK AT MOST 1048576: true; the input reads as it did. -/
def sv39WalksUptoRow : OpenClaim := { program := "ytlhdildnekllhaa", sum := "8a1bc79742af571ed4c3ed86d2f1309732c0860d5d502f2362cfd9eb8db4a2f2", func := "vireo/vireolaw10.Sv39Walks", spec := "sv39Walks", recurses := true, apart := false, narrowed := true }
def Sv39WalksUptoSaid : Prop := sv39WalksUptoRow.holds Try.pinned (OpenSpec.upto sv39WalksSpec)

/-- 'vireolaw10.Sv39Rights', WHERE WHAT IT READS IS OF BULK AT MOST 1048576: true; the input reads as it did. -/
def sv39RightsUptoRow : OpenClaim := { program := "ytlhdildnekllhaa", sum := "8a1bc79742af571ed4c3ed86d2f1309732c0860d5d502f2362cfd9eb8db4a2f2", func := "vireo/vireolaw10.Sv39Rights", spec := "sv39Rights", apart := false, narrowed := true }
def Sv39RightsUptoSaid : Prop := sv39RightsUptoRow.holds Try.pinned (OpenSpec.upto sv39RightsSpec)

/-- 'vireolaw10.Sv39Makes', WHERE WHAT IT READS IS OF BULK AT MOST 1048576: true; the input reads as it did. -/
def sv39MakesUptoRow : OpenClaim := { program := "ytlhdildnekllhaa", sum := "8a1bc79742af571ed4c3ed86d2f1309732c0860d5d502f2362cfd9eb8db4a2f2", func := "vireo/vireolaw10.Sv39Makes", spec := "sv39Makes", apart := false, narrowed := true }
def Sv39MakesUptoSaid : Prop := sv39MakesUptoRow.holds Try.pinned (OpenSpec.upto sv39MakesSpec)

/-- 'vireolaw10.Sv39Keeps', WHERE WHAT IT READS IS OF BULK AT MOST 1048576: true; the input reads as it did. -/
def sv39KeepsUptoRow : OpenClaim := { program := "ytlhdildnekllhaa", sum := "8a1bc79742af571ed4c3ed86d2f1309732c0860d5d502f2362cfd9eb8db4a2f2", func := "vireo/vireolaw10.Sv39Keeps", spec := "sv39Keeps", apart := false, narrowed := true }
def Sv39KeepsUptoSaid : Prop := sv39KeepsUptoRow.holds Try.pinned (OpenSpec.upto sv39KeepsSpec)

/-- 'vireolaw10.Sv39Ways', WHERE WHAT IT READS IS OF BULK AT MOST 1048576: true; the input reads as it did. -/
def sv39WaysUptoRow : OpenClaim := { program := "ytlhdildnekllhaa", sum := "8a1bc79742af571ed4c3ed86d2f1309732c0860d5d502f2362cfd9eb8db4a2f2", func := "vireo/vireolaw10.Sv39Ways", spec := "sv39Ways", apart := false, narrowed := true }
def Sv39WaysUptoSaid : Prop := sv39WaysUptoRow.holds Try.pinned (OpenSpec.upto sv39WaysSpec)

end Rows
end Go.Proofs.Ytlhdildnekllhaa
