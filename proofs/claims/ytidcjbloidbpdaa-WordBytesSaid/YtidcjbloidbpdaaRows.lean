/-
  No cell of these rows narrows 'for every input' (looked for: loops, veiled, ifaces, maps, wideKeys, modest, calm, conditions, laid).
  DERIVED. THE GIVEN ROWS OF THIS SEAT. 10 by the template 'for every input the law returns true; each argument reads behind the call as it read before'; 0 by the template 'total and deterministic' (their statements: YtidcjbloidbpdaaTotals.lean).
  GIVEN WITH THE SEED: the statements are not yours to turn. If you find one false, say at which input.
  Laid BY PROGRAM, IN A SANDBOX (cutbox-rows.mjs): the forced cells as the released guide's own fill.sh prints them over the translation b4bfa75db3a62d0b… (all of the seat's roots in one cut). By AI agents, Wed Nov 11 2026. No macro, syntax, notation, axiom, sorry.
-/
import Derived.Test.YtidcjbloidbpdaaChecked
import GoSem.Claim
import GoSem.ClaimJoined
import GoSem.ClaimMapViews
import Derived.JoinedTies
import Derived.KernelRfl
namespace Go.Proofs.Ytidcjbloidbpdaa
/- THE CELL 'sum', in the pinned program and in every row, IS THE sha256 OF THE DUMP (.gsa) THAT YtidcjbloidbpdaaProg.lean LOADS. Nothing in Lean hashes anything: it is a label: what it is worth is what the hold of that sum in a sandbox is worth. -/
noncomputable def Try.pinned : Pinned := { name := "ytidcjbloidbpdaa", sum := "b4bfa75db3a62d0bdf877de0743de6c5b49f4ddf51bf3a6d16380276f5aeab16", checked := Try.checked }
namespace Rows
def none {H : Type} : Left H := { results := [], args := [] }

/-- 'vireolaw01.WordGets': WHATEVER THE INPUT: true; the input reads as it did. -/
def wordGetsSpec : ChangeSpec := { name := "wordGets", fn := fun _ => fun
  | [d1, d2, d3] => { results := [.lit (.bool true)], args := [d1, d2, d3] }
  | _ => none }
def wordGetsRow : OpenClaim := { program := "ytidcjbloidbpdaa", sum := "b4bfa75db3a62d0bdf877de0743de6c5b49f4ddf51bf3a6d16380276f5aeab16", func := "vireo/vireolaw01.WordGets", spec := "wordGets", apart := false }
def WordGetsSaid : Prop := wordGetsRow.holds Try.pinned (OpenSpec.ofChange wordGetsSpec)

/-- ITS FALSE NEIGHBOUR: 'it returns false'. Refute it at one input. -/
def wordGetsWrong : ChangeSpec := { name := "wordGets", fn := fun _ => fun
  | [d1, d2, d3] => { results := [.lit (.bool false)], args := [d1, d2, d3] }
  | _ => none }
def WordGetsWrongFalsely : Prop := wordGetsRow.holds Try.pinned (OpenSpec.ofChange wordGetsWrong)

/-- 'vireolaw01.WordWithin': WHATEVER THE INPUT: true; the input reads as it did. -/
def wordWithinSpec : ChangeSpec := { name := "wordWithin", fn := fun _ => fun
  | [d1, d2] => { results := [.lit (.bool true)], args := [d1, d2] }
  | _ => none }
def wordWithinRow : OpenClaim := { program := "ytidcjbloidbpdaa", sum := "b4bfa75db3a62d0bdf877de0743de6c5b49f4ddf51bf3a6d16380276f5aeab16", func := "vireo/vireolaw01.WordWithin", spec := "wordWithin", apart := false }
def WordWithinSaid : Prop := wordWithinRow.holds Try.pinned (OpenSpec.ofChange wordWithinSpec)

/-- ITS FALSE NEIGHBOUR: 'it returns false'. Refute it at one input. -/
def wordWithinWrong : ChangeSpec := { name := "wordWithin", fn := fun _ => fun
  | [d1, d2] => { results := [.lit (.bool false)], args := [d1, d2] }
  | _ => none }
def WordWithinWrongFalsely : Prop := wordWithinRow.holds Try.pinned (OpenSpec.ofChange wordWithinWrong)

/-- 'vireolaw01.WordSigns': WHATEVER THE INPUT: true; the input reads as it did. -/
def wordSignsSpec : ChangeSpec := { name := "wordSigns", fn := fun _ => fun
  | [d1, d2] => { results := [.lit (.bool true)], args := [d1, d2] }
  | _ => none }
def wordSignsRow : OpenClaim := { program := "ytidcjbloidbpdaa", sum := "b4bfa75db3a62d0bdf877de0743de6c5b49f4ddf51bf3a6d16380276f5aeab16", func := "vireo/vireolaw01.WordSigns", spec := "wordSigns", apart := false }
def WordSignsSaid : Prop := wordSignsRow.holds Try.pinned (OpenSpec.ofChange wordSignsSpec)

/-- ITS FALSE NEIGHBOUR: 'it returns false'. Refute it at one input. -/
def wordSignsWrong : ChangeSpec := { name := "wordSigns", fn := fun _ => fun
  | [d1, d2] => { results := [.lit (.bool false)], args := [d1, d2] }
  | _ => none }
def WordSignsWrongFalsely : Prop := wordSignsRow.holds Try.pinned (OpenSpec.ofChange wordSignsWrong)

/-- 'vireolaw01.WordAligns': WHATEVER THE INPUT: true; the input reads as it did. -/
def wordAlignsSpec : ChangeSpec := { name := "wordAligns", fn := fun _ => fun
  | [d1, d2] => { results := [.lit (.bool true)], args := [d1, d2] }
  | _ => none }
def wordAlignsRow : OpenClaim := { program := "ytidcjbloidbpdaa", sum := "b4bfa75db3a62d0bdf877de0743de6c5b49f4ddf51bf3a6d16380276f5aeab16", func := "vireo/vireolaw01.WordAligns", spec := "wordAligns", apart := false }
def WordAlignsSaid : Prop := wordAlignsRow.holds Try.pinned (OpenSpec.ofChange wordAlignsSpec)

/-- ITS FALSE NEIGHBOUR: 'it returns false'. Refute it at one input. -/
def wordAlignsWrong : ChangeSpec := { name := "wordAligns", fn := fun _ => fun
  | [d1, d2] => { results := [.lit (.bool false)], args := [d1, d2] }
  | _ => none }
def WordAlignsWrongFalsely : Prop := wordAlignsRow.holds Try.pinned (OpenSpec.ofChange wordAlignsWrong)

/-- 'vireolaw01.WordPuts': WHATEVER THE INPUT: true; the input reads as it did. -/
def wordPutsSpec : ChangeSpec := { name := "wordPuts", fn := fun _ => fun
  | [d1, d2, d3] => { results := [.lit (.bool true)], args := [d1, d2, d3] }
  | _ => none }
def wordPutsRow : OpenClaim := { program := "ytidcjbloidbpdaa", sum := "b4bfa75db3a62d0bdf877de0743de6c5b49f4ddf51bf3a6d16380276f5aeab16", func := "vireo/vireolaw01.WordPuts", spec := "wordPuts", apart := false }
def WordPutsSaid : Prop := wordPutsRow.holds Try.pinned (OpenSpec.ofChange wordPutsSpec)

/-- ITS FALSE NEIGHBOUR: 'it returns false'. Refute it at one input. -/
def wordPutsWrong : ChangeSpec := { name := "wordPuts", fn := fun _ => fun
  | [d1, d2, d3] => { results := [.lit (.bool false)], args := [d1, d2, d3] }
  | _ => none }
def WordPutsWrongFalsely : Prop := wordPutsRow.holds Try.pinned (OpenSpec.ofChange wordPutsWrong)

/-- 'vireolaw01.WordOverlaps': WHATEVER THE INPUT: true; the input reads as it did. -/
def wordOverlapsSpec : ChangeSpec := { name := "wordOverlaps", fn := fun _ => fun
  | [d1, d2] => { results := [.lit (.bool true)], args := [d1, d2] }
  | _ => none }
def wordOverlapsRow : OpenClaim := { program := "ytidcjbloidbpdaa", sum := "b4bfa75db3a62d0bdf877de0743de6c5b49f4ddf51bf3a6d16380276f5aeab16", func := "vireo/vireolaw01.WordOverlaps", spec := "wordOverlaps", apart := false }
def WordOverlapsSaid : Prop := wordOverlapsRow.holds Try.pinned (OpenSpec.ofChange wordOverlapsSpec)

/-- ITS FALSE NEIGHBOUR: 'it returns false'. Refute it at one input. -/
def wordOverlapsWrong : ChangeSpec := { name := "wordOverlaps", fn := fun _ => fun
  | [d1, d2] => { results := [.lit (.bool false)], args := [d1, d2] }
  | _ => none }
def WordOverlapsWrongFalsely : Prop := wordOverlapsRow.holds Try.pinned (OpenSpec.ofChange wordOverlapsWrong)

/-- 'vireolaw01.WordBytes': WHATEVER THE INPUT: true; the input reads as it did. -/
def wordBytesSpec : ChangeSpec := { name := "wordBytes", fn := fun _ => fun
  | [d1, d2, d3] => { results := [.lit (.bool true)], args := [d1, d2, d3] }
  | _ => none }
def wordBytesRow : OpenClaim := { program := "ytidcjbloidbpdaa", sum := "b4bfa75db3a62d0bdf877de0743de6c5b49f4ddf51bf3a6d16380276f5aeab16", func := "vireo/vireolaw01.WordBytes", spec := "wordBytes", apart := false }
def WordBytesSaid : Prop := wordBytesRow.holds Try.pinned (OpenSpec.ofChange wordBytesSpec)

/-- ITS FALSE NEIGHBOUR: 'it returns false'. Refute it at one input. -/
def wordBytesWrong : ChangeSpec := { name := "wordBytes", fn := fun _ => fun
  | [d1, d2, d3] => { results := [.lit (.bool false)], args := [d1, d2, d3] }
  | _ => none }
def WordBytesWrongFalsely : Prop := wordBytesRow.holds Try.pinned (OpenSpec.ofChange wordBytesWrong)

/-- 'vireolaw01.WordSets': WHATEVER THE INPUT: true; the input reads as it did. -/
def wordSetsSpec : ChangeSpec := { name := "wordSets", fn := fun _ => fun
  | [d1, d2, d3] => { results := [.lit (.bool true)], args := [d1, d2, d3] }
  | _ => none }
def wordSetsRow : OpenClaim := { program := "ytidcjbloidbpdaa", sum := "b4bfa75db3a62d0bdf877de0743de6c5b49f4ddf51bf3a6d16380276f5aeab16", func := "vireo/vireolaw01.WordSets", spec := "wordSets", apart := false }
def WordSetsSaid : Prop := wordSetsRow.holds Try.pinned (OpenSpec.ofChange wordSetsSpec)

/-- ITS FALSE NEIGHBOUR: 'it returns false'. Refute it at one input. -/
def wordSetsWrong : ChangeSpec := { name := "wordSets", fn := fun _ => fun
  | [d1, d2, d3] => { results := [.lit (.bool false)], args := [d1, d2, d3] }
  | _ => none }
def WordSetsWrongFalsely : Prop := wordSetsRow.holds Try.pinned (OpenSpec.ofChange wordSetsWrong)

/-- 'vireolaw01.WordParses': WHATEVER THE INPUT: true; the input reads as it did. -/
def wordParsesSpec : ChangeSpec := { name := "wordParses", fn := fun _ => fun
  | [d] => { results := [.lit (.bool true)], args := [d] }
  | _ => none }
def wordParsesRow : OpenClaim := { program := "ytidcjbloidbpdaa", sum := "b4bfa75db3a62d0bdf877de0743de6c5b49f4ddf51bf3a6d16380276f5aeab16", func := "vireo/vireolaw01.WordParses", spec := "wordParses", apart := false }
def WordParsesSaid : Prop := wordParsesRow.holds Try.pinned (OpenSpec.ofChange wordParsesSpec)

/-- ITS FALSE NEIGHBOUR: 'it returns false'. Refute it at one input. -/
def wordParsesWrong : ChangeSpec := { name := "wordParses", fn := fun _ => fun
  | [d] => { results := [.lit (.bool false)], args := [d] }
  | _ => none }
def WordParsesWrongFalsely : Prop := wordParsesRow.holds Try.pinned (OpenSpec.ofChange wordParsesWrong)

/-- 'vireolaw01.WordTexts': WHATEVER THE INPUT: true; the input reads as it did. -/
def wordTextsSpec : ChangeSpec := { name := "wordTexts", fn := fun _ => fun
  | [d1, d2] => { results := [.lit (.bool true)], args := [d1, d2] }
  | _ => none }
def wordTextsRow : OpenClaim := { program := "ytidcjbloidbpdaa", sum := "b4bfa75db3a62d0bdf877de0743de6c5b49f4ddf51bf3a6d16380276f5aeab16", func := "vireo/vireolaw01.WordTexts", spec := "wordTexts", recurses := true, apart := false }
def WordTextsSaid : Prop := wordTextsRow.holds Try.pinned (OpenSpec.ofChange wordTextsSpec)

/-- ITS FALSE NEIGHBOUR: 'it returns false'. Refute it at one input. -/
def wordTextsWrong : ChangeSpec := { name := "wordTexts", fn := fun _ => fun
  | [d1, d2] => { results := [.lit (.bool false)], args := [d1, d2] }
  | _ => none }
def WordTextsWrongFalsely : Prop := wordTextsRow.holds Try.pinned (OpenSpec.ofChange wordTextsWrong)

/- THE SECOND FORM. 'bulk': how many values and letters a reading holds, each counted each time it is reached (what is shared counts as often as it is met; a slice's spare places count too). A statement '..UptoSaid' is the law's where the arguments, and the package variables that the reading takes, are together of bulk at most 1048576: NARROWER than '..Said'. Prove '..Said' where nothing that the law and all that it calls make is longer than what came in: it says more and counts as full. Else prove '..UptoSaid'. A law counts once. -/
mutual
def uptoBulk {H : Type} : DataW H → Nat
  | .lit (.string bytes) => bytes.length + 1
  | .lit _ => 1
  | .nil => 1
  | .ptr d => uptoBulk d + 1
  | .slice elems spare => uptoBulkAll elems + uptoBulkAll spare + 1
  | .agg parts => uptoBulkAll parts + 1
  | .iface _ d => uptoBulk d + 1
  | .map entries => uptoBulkEntries entries + 1
  | .held _ => 1
def uptoBulkAll {H : Type} : List (DataW H) → Nat
  | [] => 0
  | d :: r => uptoBulk d + uptoBulkAll r
def uptoBulkEntries {H : Type} : List (Lit × DataW H) → Nat
  | [] => 0
  | x :: r => uptoBulkEntry x + uptoBulkEntries r
def uptoBulkEntry {H : Type} : Lit × DataW H → Nat
  | (.string bytes, d) => bytes.length + uptoBulk d + 1
  | (_, d) => uptoBulk d + 1
 end
def uptoSmall : (H : Type) → List (DataW H) → Bool := fun _ ds => decide (uptoBulkAll ds ≤ 1048576)
def OpenSpec.upto (s : _root_.Go.ChangeSpec) : _root_.Go.OpenSpec := { _root_.Go.OpenSpec.ofChange s with cond := some uptoSmall }

/-- 'vireolaw01.WordGets', WHERE WHAT IT READS IS OF BULK AT MOST 1048576: true; the input reads as it did. -/
def wordGetsUptoRow : OpenClaim := { program := "ytidcjbloidbpdaa", sum := "b4bfa75db3a62d0bdf877de0743de6c5b49f4ddf51bf3a6d16380276f5aeab16", func := "vireo/vireolaw01.WordGets", spec := "wordGets", apart := false, narrowed := true }
def WordGetsUptoSaid : Prop := wordGetsUptoRow.holds Try.pinned (OpenSpec.upto wordGetsSpec)

/-- 'vireolaw01.WordWithin', WHERE WHAT IT READS IS OF BULK AT MOST 1048576: true; the input reads as it did. -/
def wordWithinUptoRow : OpenClaim := { program := "ytidcjbloidbpdaa", sum := "b4bfa75db3a62d0bdf877de0743de6c5b49f4ddf51bf3a6d16380276f5aeab16", func := "vireo/vireolaw01.WordWithin", spec := "wordWithin", apart := false, narrowed := true }
def WordWithinUptoSaid : Prop := wordWithinUptoRow.holds Try.pinned (OpenSpec.upto wordWithinSpec)

/-- 'vireolaw01.WordSigns', WHERE WHAT IT READS IS OF BULK AT MOST 1048576: true; the input reads as it did. -/
def wordSignsUptoRow : OpenClaim := { program := "ytidcjbloidbpdaa", sum := "b4bfa75db3a62d0bdf877de0743de6c5b49f4ddf51bf3a6d16380276f5aeab16", func := "vireo/vireolaw01.WordSigns", spec := "wordSigns", apart := false, narrowed := true }
def WordSignsUptoSaid : Prop := wordSignsUptoRow.holds Try.pinned (OpenSpec.upto wordSignsSpec)

/-- 'vireolaw01.WordAligns', WHERE WHAT IT READS IS OF BULK AT MOST 1048576: true; the input reads as it did. -/
def wordAlignsUptoRow : OpenClaim := { program := "ytidcjbloidbpdaa", sum := "b4bfa75db3a62d0bdf877de0743de6c5b49f4ddf51bf3a6d16380276f5aeab16", func := "vireo/vireolaw01.WordAligns", spec := "wordAligns", apart := false, narrowed := true }
def WordAlignsUptoSaid : Prop := wordAlignsUptoRow.holds Try.pinned (OpenSpec.upto wordAlignsSpec)

/-- 'vireolaw01.WordPuts', WHERE WHAT IT READS IS OF BULK AT MOST 1048576: true; the input reads as it did. -/
def wordPutsUptoRow : OpenClaim := { program := "ytidcjbloidbpdaa", sum := "b4bfa75db3a62d0bdf877de0743de6c5b49f4ddf51bf3a6d16380276f5aeab16", func := "vireo/vireolaw01.WordPuts", spec := "wordPuts", apart := false, narrowed := true }
def WordPutsUptoSaid : Prop := wordPutsUptoRow.holds Try.pinned (OpenSpec.upto wordPutsSpec)

/-- 'vireolaw01.WordOverlaps', WHERE WHAT IT READS IS OF BULK AT MOST 1048576: true; the input reads as it did. -/
def wordOverlapsUptoRow : OpenClaim := { program := "ytidcjbloidbpdaa", sum := "b4bfa75db3a62d0bdf877de0743de6c5b49f4ddf51bf3a6d16380276f5aeab16", func := "vireo/vireolaw01.WordOverlaps", spec := "wordOverlaps", apart := false, narrowed := true }
def WordOverlapsUptoSaid : Prop := wordOverlapsUptoRow.holds Try.pinned (OpenSpec.upto wordOverlapsSpec)

/-- 'vireolaw01.WordBytes', WHERE WHAT IT READS IS OF BULK AT MOST 1048576: true; the input reads as it did. -/
def wordBytesUptoRow : OpenClaim := { program := "ytidcjbloidbpdaa", sum := "b4bfa75db3a62d0bdf877de0743de6c5b49f4ddf51bf3a6d16380276f5aeab16", func := "vireo/vireolaw01.WordBytes", spec := "wordBytes", apart := false, narrowed := true }
def WordBytesUptoSaid : Prop := wordBytesUptoRow.holds Try.pinned (OpenSpec.upto wordBytesSpec)

/-- 'vireolaw01.WordSets', WHERE WHAT IT READS IS OF BULK AT MOST 1048576: true; the input reads as it did. -/
def wordSetsUptoRow : OpenClaim := { program := "ytidcjbloidbpdaa", sum := "b4bfa75db3a62d0bdf877de0743de6c5b49f4ddf51bf3a6d16380276f5aeab16", func := "vireo/vireolaw01.WordSets", spec := "wordSets", apart := false, narrowed := true }
def WordSetsUptoSaid : Prop := wordSetsUptoRow.holds Try.pinned (OpenSpec.upto wordSetsSpec)

/-- 'vireolaw01.WordParses', WHERE WHAT IT READS IS OF BULK AT MOST 1048576: true; the input reads as it did. -/
def wordParsesUptoRow : OpenClaim := { program := "ytidcjbloidbpdaa", sum := "b4bfa75db3a62d0bdf877de0743de6c5b49f4ddf51bf3a6d16380276f5aeab16", func := "vireo/vireolaw01.WordParses", spec := "wordParses", apart := false, narrowed := true }
def WordParsesUptoSaid : Prop := wordParsesUptoRow.holds Try.pinned (OpenSpec.upto wordParsesSpec)

/-- 'vireolaw01.WordTexts', WHERE WHAT IT READS IS OF BULK AT MOST 1048576: true; the input reads as it did. -/
def wordTextsUptoRow : OpenClaim := { program := "ytidcjbloidbpdaa", sum := "b4bfa75db3a62d0bdf877de0743de6c5b49f4ddf51bf3a6d16380276f5aeab16", func := "vireo/vireolaw01.WordTexts", spec := "wordTexts", recurses := true, apart := false, narrowed := true }
def WordTextsUptoSaid : Prop := wordTextsUptoRow.holds Try.pinned (OpenSpec.upto wordTextsSpec)

end Rows
end Go.Proofs.Ytidcjbloidbpdaa
