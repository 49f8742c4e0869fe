/-
  No cell of these rows narrows 'for every input' (looked for: loops, veiled, ifaces, maps, wideKeys, modest, calm, conditions, laid).
  DERIVED. THE GIVEN ROWS OF THIS SEAT. 4 by the template 'for every input the law returns true; each argument reads behind the call as it read before'; 0 by the template 'total and deterministic' (their statements: YtpodgoceheoogaaTotals.lean).
  GIVEN WITH THE SEED: the statements are not yours to turn. If you find one false, say at which input.
  Laid BY PROGRAM, IN A SANDBOX (cutbox-rows.mjs): the forced cells as the released guide's own fill.sh prints them over the translation 93e33a9f22655f74… (all of the seat's roots in one cut). By AI agents, Wed Nov 11 2026. No macro, syntax, notation, axiom, sorry.
-/
import Derived.Test.YtpodgoceheoogaaChecked
import GoSem.Claim
import GoSem.ClaimJoined
import GoSem.ClaimMapViews
import Derived.JoinedTies
import Derived.KernelRfl
namespace Go.Proofs.Ytpodgoceheoogaa
/- THE CELL 'sum', in the pinned program and in every row, IS THE sha256 OF THE DUMP (.gsa) THAT YtpodgoceheoogaaProg.lean LOADS. Nothing in Lean hashes anything: it is a label: what it is worth is what the hold of that sum in a sandbox is worth. -/
noncomputable def Try.pinned : Pinned := { name := "ytpodgoceheoogaa", sum := "93e33a9f22655f742a665b0669e28920842c2bb8fb601b9f0847bc1676956a13", checked := Try.checked }
namespace Rows
def none {H : Type} : Left H := { results := [], args := [] }

/-- 'vireolaw11.ClintTicks': WHATEVER THE INPUT: true; the input reads as it did. -/
def clintTicksSpec : ChangeSpec := { name := "clintTicks", fn := fun _ => fun
  | [d1, d2] => { results := [.lit (.bool true)], args := [d1, d2] }
  | _ => none }
def clintTicksRow : OpenClaim := { program := "ytpodgoceheoogaa", sum := "93e33a9f22655f742a665b0669e28920842c2bb8fb601b9f0847bc1676956a13", func := "vireo/vireolaw11.ClintTicks", spec := "clintTicks", apart := false }
def ClintTicksSaid : Prop := clintTicksRow.holds Try.pinned (OpenSpec.ofChange clintTicksSpec)

/-- ITS FALSE NEIGHBOUR: 'it returns false'. Refute it at one input. -/
def clintTicksWrong : ChangeSpec := { name := "clintTicks", fn := fun _ => fun
  | [d1, d2] => { results := [.lit (.bool false)], args := [d1, d2] }
  | _ => none }
def ClintTicksWrongFalsely : Prop := clintTicksRow.holds Try.pinned (OpenSpec.ofChange clintTicksWrong)

/-- 'vireolaw11.ClintAsks': WHATEVER THE INPUT: true; the input reads as it did. -/
def clintAsksSpec : ChangeSpec := { name := "clintAsks", fn := fun _ => fun
  | [d1, d2, d3] => { results := [.lit (.bool true)], args := [d1, d2, d3] }
  | _ => none }
def clintAsksRow : OpenClaim := { program := "ytpodgoceheoogaa", sum := "93e33a9f22655f742a665b0669e28920842c2bb8fb601b9f0847bc1676956a13", func := "vireo/vireolaw11.ClintAsks", spec := "clintAsks", apart := false }
def ClintAsksSaid : Prop := clintAsksRow.holds Try.pinned (OpenSpec.ofChange clintAsksSpec)

/-- ITS FALSE NEIGHBOUR: 'it returns false'. Refute it at one input. -/
def clintAsksWrong : ChangeSpec := { name := "clintAsks", fn := fun _ => fun
  | [d1, d2, d3] => { results := [.lit (.bool false)], args := [d1, d2, d3] }
  | _ => none }
def ClintAsksWrongFalsely : Prop := clintAsksRow.holds Try.pinned (OpenSpec.ofChange clintAsksWrong)

/-- 'vireolaw11.ClintBack': WHATEVER THE INPUT: true; the input reads as it did. -/
def clintBackSpec : ChangeSpec := { name := "clintBack", fn := fun _ => fun
  | [d1, d2] => { results := [.lit (.bool true)], args := [d1, d2] }
  | _ => none }
def clintBackRow : OpenClaim := { program := "ytpodgoceheoogaa", sum := "93e33a9f22655f742a665b0669e28920842c2bb8fb601b9f0847bc1676956a13", func := "vireo/vireolaw11.ClintBack", spec := "clintBack", apart := false }
def ClintBackSaid : Prop := clintBackRow.holds Try.pinned (OpenSpec.ofChange clintBackSpec)

/-- ITS FALSE NEIGHBOUR: 'it returns false'. Refute it at one input. -/
def clintBackWrong : ChangeSpec := { name := "clintBack", fn := fun _ => fun
  | [d1, d2] => { results := [.lit (.bool false)], args := [d1, d2] }
  | _ => none }
def ClintBackWrongFalsely : Prop := clintBackRow.holds Try.pinned (OpenSpec.ofChange clintBackWrong)

/-- 'vireolaw11.ClintPlays': WHATEVER THE INPUT: true; the input reads as it did. -/
def clintPlaysSpec : ChangeSpec := { name := "clintPlays", fn := fun _ => fun
  | [d] => { results := [.lit (.bool true)], args := [d] }
  | _ => none }
def clintPlaysRow : OpenClaim := { program := "ytpodgoceheoogaa", sum := "93e33a9f22655f742a665b0669e28920842c2bb8fb601b9f0847bc1676956a13", func := "vireo/vireolaw11.ClintPlays", spec := "clintPlays", apart := false }
def ClintPlaysSaid : Prop := clintPlaysRow.holds Try.pinned (OpenSpec.ofChange clintPlaysSpec)

/-- ITS FALSE NEIGHBOUR: 'it returns false'. Refute it at one input. -/
def clintPlaysWrong : ChangeSpec := { name := "clintPlays", fn := fun _ => fun
  | [d] => { results := [.lit (.bool false)], args := [d] }
  | _ => none }
def ClintPlaysWrongFalsely : Prop := clintPlaysRow.holds Try.pinned (OpenSpec.ofChange clintPlaysWrong)

/- THE SECOND FORM. 'bulk': how many values and letters a reading holds, each counted each time it is reached (what is shared counts as often as it is met; a slice's spare places count too). A statement '..UptoSaid' is the law's where the arguments, and the package variables that the reading takes, are together of bulk at most 1048576: NARROWER than '..Said'. Prove '..Said' where nothing that the law and all that it calls make is longer than what came in: it says more and counts as full. Else prove '..UptoSaid'. A law counts once. -/
mutual
def uptoBulk {H : Type} : DataW H → Nat
  | .lit (.string bytes) => bytes.length + 1
  | .lit _ => 1
  | .nil => 1
  | .ptr d => uptoBulk d + 1
  | .slice elems spare => uptoBulkAll elems + uptoBulkAll spare + 1
  | .agg parts => uptoBulkAll parts + 1
  | .iface _ d => uptoBulk d + 1
  | .map entries => uptoBulkEntries entries + 1
  | .held _ => 1
def uptoBulkAll {H : Type} : List (DataW H) → Nat
  | [] => 0
  | d :: r => uptoBulk d + uptoBulkAll r
def uptoBulkEntries {H : Type} : List (Lit × DataW H) → Nat
  | [] => 0
  | x :: r => uptoBulkEntry x + uptoBulkEntries r
def uptoBulkEntry {H : Type} : Lit × DataW H → Nat
  | (.string bytes, d) => bytes.length + uptoBulk d + 1
  | (_, d) => uptoBulk d + 1
 end
def uptoSmall : (H : Type) → List (DataW H) → Bool := fun _ ds => decide (uptoBulkAll ds ≤ 1048576)
def OpenSpec.upto (s : _root_.Go.ChangeSpec) : _root_.Go.OpenSpec := { _root_.Go.OpenSpec.ofChange s with cond := some uptoSmall }

/-- 'vireolaw11.ClintTicks', WHERE WHAT IT READS IS OF BULK AT MOST 1048576: true; the input reads as it did. -/
def clintTicksUptoRow : OpenClaim := { program := "ytpodgoceheoogaa", sum := "93e33a9f22655f742a665b0669e28920842c2bb8fb601b9f0847bc1676956a13", func := "vireo/vireolaw11.ClintTicks", spec := "clintTicks", apart := false, narrowed := true }
def ClintTicksUptoSaid : Prop := clintTicksUptoRow.holds Try.pinned (OpenSpec.upto clintTicksSpec)

/-- 'vireolaw11.ClintAsks', WHERE WHAT IT READS IS OF BULK AT MOST 1048576: true; the input reads as it did. -/
def clintAsksUptoRow : OpenClaim := { program := "ytpodgoceheoogaa", sum := "93e33a9f22655f742a665b0669e28920842c2bb8fb601b9f0847bc1676956a13", func := "vireo/vireolaw11.ClintAsks", spec := "clintAsks", apart := false, narrowed := true }
def ClintAsksUptoSaid : Prop := clintAsksUptoRow.holds Try.pinned (OpenSpec.upto clintAsksSpec)

/-- 'vireolaw11.ClintBack', WHERE WHAT IT READS IS OF BULK AT MOST 1048576: true; the input reads as it did. -/
def clintBackUptoRow : OpenClaim := { program := "ytpodgoceheoogaa", sum := "93e33a9f22655f742a665b0669e28920842c2bb8fb601b9f0847bc1676956a13", func := "vireo/vireolaw11.ClintBack", spec := "clintBack", apart := false, narrowed := true }
def ClintBackUptoSaid : Prop := clintBackUptoRow.holds Try.pinned (OpenSpec.upto clintBackSpec)

/-- 'vireolaw11.ClintPlays', WHERE WHAT IT READS IS OF BULK AT MOST 1048576: true; the input reads as it did. -/
def clintPlaysUptoRow : OpenClaim := { program := "ytpodgoceheoogaa", sum := "93e33a9f22655f742a665b0669e28920842c2bb8fb601b9f0847bc1676956a13", func := "vireo/vireolaw11.ClintPlays", spec := "clintPlays", apart := false, narrowed := true }
def ClintPlaysUptoSaid : Prop := clintPlaysUptoRow.holds Try.pinned (OpenSpec.upto clintPlaysSpec)

end Rows
end Go.Proofs.Ytpodgoceheoogaa
