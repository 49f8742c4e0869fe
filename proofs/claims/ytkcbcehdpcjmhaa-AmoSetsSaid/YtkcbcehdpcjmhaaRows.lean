/-
  No cell of these rows narrows 'for every input' (looked for: loops, veiled, ifaces, maps, wideKeys, modest, calm, conditions, laid).
  DERIVED. THE GIVEN ROWS OF THIS SEAT. 5 by the template 'for every input the law returns true; each argument reads behind the call as it read before'; 0 by the template 'total and deterministic' (their statements: YtkcbcehdpcjmhaaTotals.lean).
  GIVEN WITH THE SEED: the statements are not yours to turn. If you find one false, say at which input.
  Laid BY PROGRAM, IN A SANDBOX (cutbox-rows.mjs): the forced cells as the released guide's own fill.sh prints them over the translation bb6e5fdbd9421887… (all of the seat's roots in one cut). By AI agents, Wed Nov 11 2026. No macro, syntax, notation, axiom, sorry.
-/
import Derived.Test.YtkcbcehdpcjmhaaChecked
import GoSem.Claim
import GoSem.ClaimJoined
import GoSem.ClaimMapViews
import Derived.JoinedTies
import Derived.KernelRfl
namespace Go.Proofs.Ytkcbcehdpcjmhaa
/- THE CELL 'sum', in the pinned program and in every row, IS THE sha256 OF THE DUMP (.gsa) THAT YtkcbcehdpcjmhaaProg.lean LOADS. Nothing in Lean hashes anything: it is a label: what it is worth is what the hold of that sum in a sandbox is worth. -/
noncomputable def Try.pinned : Pinned := { name := "ytkcbcehdpcjmhaa", sum := "bb6e5fdbd9421887ed390dce93e5a3c104e26daced4ffd0bb27832547442355a", checked := Try.checked }
namespace Rows
def none {H : Type} : Left H := { results := [], args := [] }

/-- 'vireolaw07.AmoNews': WHATEVER THE INPUT: true; the input reads as it did. -/
def amoNewsSpec : ChangeSpec := { name := "amoNews", fn := fun _ => fun
  | [d1, d2, d3] => { results := [.lit (.bool true)], args := [d1, d2, d3] }
  | _ => none }
def amoNewsRow : OpenClaim := { program := "ytkcbcehdpcjmhaa", sum := "bb6e5fdbd9421887ed390dce93e5a3c104e26daced4ffd0bb27832547442355a", func := "vireo/vireolaw07.AmoNews", spec := "amoNews", apart := false }
def AmoNewsSaid : Prop := amoNewsRow.holds Try.pinned (OpenSpec.ofChange amoNewsSpec)

/-- ITS FALSE NEIGHBOUR: 'it returns false'. Refute it at one input. -/
def amoNewsWrong : ChangeSpec := { name := "amoNews", fn := fun _ => fun
  | [d1, d2, d3] => { results := [.lit (.bool false)], args := [d1, d2, d3] }
  | _ => none }
def AmoNewsWrongFalsely : Prop := amoNewsRow.holds Try.pinned (OpenSpec.ofChange amoNewsWrong)

/-- 'vireolaw07.AmoBoth': WHATEVER THE INPUT: true; the input reads as it did. -/
def amoBothSpec : ChangeSpec := { name := "amoBoth", fn := fun _ => fun
  | [d1, d2] => { results := [.lit (.bool true)], args := [d1, d2] }
  | _ => none }
def amoBothRow : OpenClaim := { program := "ytkcbcehdpcjmhaa", sum := "bb6e5fdbd9421887ed390dce93e5a3c104e26daced4ffd0bb27832547442355a", func := "vireo/vireolaw07.AmoBoth", spec := "amoBoth", apart := false }
def AmoBothSaid : Prop := amoBothRow.holds Try.pinned (OpenSpec.ofChange amoBothSpec)

/-- ITS FALSE NEIGHBOUR: 'it returns false'. Refute it at one input. -/
def amoBothWrong : ChangeSpec := { name := "amoBoth", fn := fun _ => fun
  | [d1, d2] => { results := [.lit (.bool false)], args := [d1, d2] }
  | _ => none }
def AmoBothWrongFalsely : Prop := amoBothRow.holds Try.pinned (OpenSpec.ofChange amoBothWrong)

/-- 'vireolaw07.AmoHalves': WHATEVER THE INPUT: true; the input reads as it did. -/
def amoHalvesSpec : ChangeSpec := { name := "amoHalves", fn := fun _ => fun
  | [d1, d2, d3] => { results := [.lit (.bool true)], args := [d1, d2, d3] }
  | _ => none }
def amoHalvesRow : OpenClaim := { program := "ytkcbcehdpcjmhaa", sum := "bb6e5fdbd9421887ed390dce93e5a3c104e26daced4ffd0bb27832547442355a", func := "vireo/vireolaw07.AmoHalves", spec := "amoHalves", apart := false }
def AmoHalvesSaid : Prop := amoHalvesRow.holds Try.pinned (OpenSpec.ofChange amoHalvesSpec)

/-- ITS FALSE NEIGHBOUR: 'it returns false'. Refute it at one input. -/
def amoHalvesWrong : ChangeSpec := { name := "amoHalves", fn := fun _ => fun
  | [d1, d2, d3] => { results := [.lit (.bool false)], args := [d1, d2, d3] }
  | _ => none }
def AmoHalvesWrongFalsely : Prop := amoHalvesRow.holds Try.pinned (OpenSpec.ofChange amoHalvesWrong)

/-- 'vireolaw07.AmoSorts': WHATEVER THE INPUT: true; the input reads as it did. -/
def amoSortsSpec : ChangeSpec := { name := "amoSorts", fn := fun _ => fun
  | [d] => { results := [.lit (.bool true)], args := [d] }
  | _ => none }
def amoSortsRow : OpenClaim := { program := "ytkcbcehdpcjmhaa", sum := "bb6e5fdbd9421887ed390dce93e5a3c104e26daced4ffd0bb27832547442355a", func := "vireo/vireolaw07.AmoSorts", spec := "amoSorts", apart := false }
def AmoSortsSaid : Prop := amoSortsRow.holds Try.pinned (OpenSpec.ofChange amoSortsSpec)

/-- ITS FALSE NEIGHBOUR: 'it returns false'. Refute it at one input. -/
def amoSortsWrong : ChangeSpec := { name := "amoSorts", fn := fun _ => fun
  | [d] => { results := [.lit (.bool false)], args := [d] }
  | _ => none }
def AmoSortsWrongFalsely : Prop := amoSortsRow.holds Try.pinned (OpenSpec.ofChange amoSortsWrong)

/-- 'vireolaw07.AmoSets': WHATEVER THE INPUT: true; the input reads as it did. -/
def amoSetsSpec : ChangeSpec := { name := "amoSets", fn := fun _ => fun
  | [d1, d2, d3] => { results := [.lit (.bool true)], args := [d1, d2, d3] }
  | _ => none }
def amoSetsRow : OpenClaim := { program := "ytkcbcehdpcjmhaa", sum := "bb6e5fdbd9421887ed390dce93e5a3c104e26daced4ffd0bb27832547442355a", func := "vireo/vireolaw07.AmoSets", spec := "amoSets", apart := false }
def AmoSetsSaid : Prop := amoSetsRow.holds Try.pinned (OpenSpec.ofChange amoSetsSpec)

/-- ITS FALSE NEIGHBOUR: 'it returns false'. Refute it at one input. -/
def amoSetsWrong : ChangeSpec := { name := "amoSets", fn := fun _ => fun
  | [d1, d2, d3] => { results := [.lit (.bool false)], args := [d1, d2, d3] }
  | _ => none }
def AmoSetsWrongFalsely : Prop := amoSetsRow.holds Try.pinned (OpenSpec.ofChange amoSetsWrong)

/- THE SECOND FORM. 'bulk': how many values and letters a reading holds, each counted each time it is reached (what is shared counts as often as it is met; a slice's spare places count too). A statement '..UptoSaid' is the law's where the arguments, and the package variables that the reading takes, are together of bulk at most 1048576: NARROWER than '..Said'. Prove '..Said' where nothing that the law and all that it calls make is longer than what came in: it says more and counts as full. Else prove '..UptoSaid'. A law counts once. -/
mutual
def uptoBulk {H : Type} : DataW H → Nat
  | .lit (.string bytes) => bytes.length + 1
  | .lit _ => 1
  | .nil => 1
  | .ptr d => uptoBulk d + 1
  | .slice elems spare => uptoBulkAll elems + uptoBulkAll spare + 1
  | .agg parts => uptoBulkAll parts + 1
  | .iface _ d => uptoBulk d + 1
  | .map entries => uptoBulkEntries entries + 1
  | .held _ => 1
def uptoBulkAll {H : Type} : List (DataW H) → Nat
  | [] => 0
  | d :: r => uptoBulk d + uptoBulkAll r
def uptoBulkEntries {H : Type} : List (Lit × DataW H) → Nat
  | [] => 0
  | x :: r => uptoBulkEntry x + uptoBulkEntries r
def uptoBulkEntry {H : Type} : Lit × DataW H → Nat
  | (.string bytes, d) => bytes.length + uptoBulk d + 1
  | (_, d) => uptoBulk d + 1
 end
def uptoSmall : (H : Type) → List (DataW H) → Bool := fun _ ds => decide (uptoBulkAll ds ≤ 1048576)
def OpenSpec.upto (s : _root_.Go.ChangeSpec) : _root_.Go.OpenSpec := { _root_.Go.OpenSpec.ofChange s with cond := some uptoSmall }

/-- 'vireolaw07.AmoNews', WHERE WHAT IT READS IS OF BULK AT MOST 1048576: true; the input reads as it did. -/
def amoNewsUptoRow : OpenClaim := { program := "ytkcbcehdpcjmhaa", sum := "bb6e5fdbd9421887ed390dce93e5a3c104e26daced4ffd0bb27832547442355a", func := "vireo/vireolaw07.AmoNews", spec := "amoNews", apart := false, narrowed := true }
def AmoNewsUptoSaid : Prop := amoNewsUptoRow.holds Try.pinned (OpenSpec.upto amoNewsSpec)

/-- 'vireolaw07.AmoBoth', WHERE WHAT IT READS IS OF BULK AT MOST 1048576: true; the input reads as it did. -/
def amoBothUptoRow : OpenClaim := { program := "ytkcbcehdpcjmhaa", sum := "bb6e5fdbd9421887ed390dce93e5a3c104e26daced4ffd0bb27832547442355a", func := "vireo/vireolaw07.AmoBoth", spec := "amoBoth", apart := false, narrowed := true }
def AmoBothUptoSaid : Prop := amoBothUptoRow.holds Try.pinned (OpenSpec.upto amoBothSpec)

/-- 'vireolaw07.AmoHalves', WHERE WHAT IT READS IS OF BULK AT MOST 1048576: true; the input reads as it did. -/
def amoHalvesUptoRow : OpenClaim := { program := "ytkcbcehdpcjmhaa", sum := "bb6e5fdbd9421887ed390dce93e5a3c104e26daced4ffd0bb27832547442355a", func := "vireo/vireolaw07.AmoHalves", spec := "amoHalves", apart := false, narrowed := true }
def AmoHalvesUptoSaid : Prop := amoHalvesUptoRow.holds Try.pinned (OpenSpec.upto amoHalvesSpec)

/-- 'vireolaw07.AmoSorts', WHERE WHAT IT READS IS OF BULK AT MOST 1048576: true; the input reads as it did. -/
def amoSortsUptoRow : OpenClaim := { program := "ytkcbcehdpcjmhaa", sum := "bb6e5fdbd9421887ed390dce93e5a3c104e26daced4ffd0bb27832547442355a", func := "vireo/vireolaw07.AmoSorts", spec := "amoSorts", apart := false, narrowed := true }
def AmoSortsUptoSaid : Prop := amoSortsUptoRow.holds Try.pinned (OpenSpec.upto amoSortsSpec)

/-- 'vireolaw07.AmoSets', WHERE WHAT IT READS IS OF BULK AT MOST 1048576: true; the input reads as it did. -/
def amoSetsUptoRow : OpenClaim := { program := "ytkcbcehdpcjmhaa", sum := "bb6e5fdbd9421887ed390dce93e5a3c104e26daced4ffd0bb27832547442355a", func := "vireo/vireolaw07.AmoSets", spec := "amoSets", apart := false, narrowed := true }
def AmoSetsUptoSaid : Prop := amoSetsUptoRow.holds Try.pinned (OpenSpec.upto amoSetsSpec)

end Rows
end Go.Proofs.Ytkcbcehdpcjmhaa
