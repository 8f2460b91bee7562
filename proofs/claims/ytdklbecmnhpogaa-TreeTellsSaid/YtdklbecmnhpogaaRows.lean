/-
  No cell of these rows narrows 'for every input' (looked for: loops, veiled, ifaces, maps, wideKeys, modest, calm, conditions, laid).
  DERIVED. THE GIVEN ROWS OF THIS SEAT. 6 by the template 'for every input the law returns true; each argument reads behind the call as it read before'; 0 by the template 'total and deterministic' (their statements: YtdklbecmnhpogaaTotals.lean).
  GIVEN WITH THE SEED: the statements are not yours to turn. If you find one false, say at which input.
  Laid BY PROGRAM, IN A SANDBOX (cutbox-rows.mjs): the forced cells as the released guide's own fill.sh prints them over the translation e447bb7cdfe06cf5… (all of the seat's roots in one cut). By AI agents, Wed Nov 11 2026. No macro, syntax, notation, axiom, sorry.
-/
import Derived.Test.YtdklbecmnhpogaaChecked
import GoSem.Claim
import GoSem.ClaimJoined
import GoSem.ClaimMapViews
import Derived.JoinedTies
import Derived.KernelRfl
namespace Go.Proofs.Ytdklbecmnhpogaa
/- THE CELL 'sum', in the pinned program and in every row, IS THE sha256 OF THE DUMP (.gsa) THAT YtdklbecmnhpogaaProg.lean LOADS. Nothing in Lean hashes anything: it is a label: what it is worth is what the hold of that sum in a sandbox is worth. -/
noncomputable def Try.pinned : Pinned := { name := "ytdklbecmnhpogaa", sum := "e447bb7cdfe06cf54130a36070684f9371659da2a1c7d69634fb2eb986de51a8", checked := Try.checked }
namespace Rows
def none {H : Type} : Left H := { results := [], args := [] }

/-- 'broadsheetlaw6.TreeGiven': WHATEVER THE INPUT: true; the input reads as it did. -/
def treeGivenSpec : ChangeSpec := { name := "treeGiven", fn := fun _ => fun
  | [d] => { results := [.lit (.bool true)], args := [d] }
  | _ => none }
def treeGivenRow : OpenClaim := { program := "ytdklbecmnhpogaa", sum := "e447bb7cdfe06cf54130a36070684f9371659da2a1c7d69634fb2eb986de51a8", func := "broadsheet/broadsheetlaw6.TreeGiven", spec := "treeGiven", unfollowed := true, recurses := true, apart := false }
def TreeGivenSaid : Prop := treeGivenRow.holds Try.pinned (OpenSpec.ofChange treeGivenSpec)

/-- ITS FALSE NEIGHBOUR: 'it returns false'. Refute it at one input. -/
def treeGivenWrong : ChangeSpec := { name := "treeGiven", fn := fun _ => fun
  | [d] => { results := [.lit (.bool false)], args := [d] }
  | _ => none }
def TreeGivenWrongFalsely : Prop := treeGivenRow.holds Try.pinned (OpenSpec.ofChange treeGivenWrong)

/-- 'broadsheetlaw6.TreeAppends': WHATEVER THE INPUT: true; the input reads as it did. -/
def treeAppendsSpec : ChangeSpec := { name := "treeAppends", fn := fun _ => fun
  | [d1, d2] => { results := [.lit (.bool true)], args := [d1, d2] }
  | _ => none }
def treeAppendsRow : OpenClaim := { program := "ytdklbecmnhpogaa", sum := "e447bb7cdfe06cf54130a36070684f9371659da2a1c7d69634fb2eb986de51a8", func := "broadsheet/broadsheetlaw6.TreeAppends", spec := "treeAppends", unfollowed := true, recurses := true, apart := false }
def TreeAppendsSaid : Prop := treeAppendsRow.holds Try.pinned (OpenSpec.ofChange treeAppendsSpec)

/-- ITS FALSE NEIGHBOUR: 'it returns false'. Refute it at one input. -/
def treeAppendsWrong : ChangeSpec := { name := "treeAppends", fn := fun _ => fun
  | [d1, d2] => { results := [.lit (.bool false)], args := [d1, d2] }
  | _ => none }
def TreeAppendsWrongFalsely : Prop := treeAppendsRow.holds Try.pinned (OpenSpec.ofChange treeAppendsWrong)

/-- 'broadsheetlaw6.TreeNumbers': WHATEVER THE INPUT: true; the input reads as it did. -/
def treeNumbersSpec : ChangeSpec := { name := "treeNumbers", fn := fun _ => fun
  | [] => { results := [.lit (.bool true)], args := [] }
  | _ => none }
def treeNumbersRow : OpenClaim := { program := "ytdklbecmnhpogaa", sum := "e447bb7cdfe06cf54130a36070684f9371659da2a1c7d69634fb2eb986de51a8", func := "broadsheet/broadsheetlaw6.TreeNumbers", spec := "treeNumbers", unfollowed := true, recurses := true, apart := false }
def TreeNumbersSaid : Prop := treeNumbersRow.holds Try.pinned (OpenSpec.ofChange treeNumbersSpec)

/-- ITS FALSE NEIGHBOUR: 'it returns false'. Refute it at one input. -/
def treeNumbersWrong : ChangeSpec := { name := "treeNumbers", fn := fun _ => fun
  | [] => { results := [.lit (.bool false)], args := [] }
  | _ => none }
def TreeNumbersWrongFalsely : Prop := treeNumbersRow.holds Try.pinned (OpenSpec.ofChange treeNumbersWrong)

/-- 'broadsheetlaw6.TreeHalves': WHATEVER THE INPUT: true; the input reads as it did. -/
def treeHalvesSpec : ChangeSpec := { name := "treeHalves", fn := fun _ => fun
  | [d] => { results := [.lit (.bool true)], args := [d] }
  | _ => none }
def treeHalvesRow : OpenClaim := { program := "ytdklbecmnhpogaa", sum := "e447bb7cdfe06cf54130a36070684f9371659da2a1c7d69634fb2eb986de51a8", func := "broadsheet/broadsheetlaw6.TreeHalves", spec := "treeHalves", unfollowed := true, recurses := true, apart := false }
def TreeHalvesSaid : Prop := treeHalvesRow.holds Try.pinned (OpenSpec.ofChange treeHalvesSpec)

/-- ITS FALSE NEIGHBOUR: 'it returns false'. Refute it at one input. -/
def treeHalvesWrong : ChangeSpec := { name := "treeHalves", fn := fun _ => fun
  | [d] => { results := [.lit (.bool false)], args := [d] }
  | _ => none }
def TreeHalvesWrongFalsely : Prop := treeHalvesRow.holds Try.pinned (OpenSpec.ofChange treeHalvesWrong)

/-- 'broadsheetlaw6.TreeRanges': WHATEVER THE INPUT: true; the input reads as it did. -/
def treeRangesSpec : ChangeSpec := { name := "treeRanges", fn := fun _ => fun
  | [d1, d2, d3] => { results := [.lit (.bool true)], args := [d1, d2, d3] }
  | _ => none }
def treeRangesRow : OpenClaim := { program := "ytdklbecmnhpogaa", sum := "e447bb7cdfe06cf54130a36070684f9371659da2a1c7d69634fb2eb986de51a8", func := "broadsheet/broadsheetlaw6.TreeRanges", spec := "treeRanges", unfollowed := true, recurses := true, apart := false }
def TreeRangesSaid : Prop := treeRangesRow.holds Try.pinned (OpenSpec.ofChange treeRangesSpec)

/-- ITS FALSE NEIGHBOUR: 'it returns false'. Refute it at one input. -/
def treeRangesWrong : ChangeSpec := { name := "treeRanges", fn := fun _ => fun
  | [d1, d2, d3] => { results := [.lit (.bool false)], args := [d1, d2, d3] }
  | _ => none }
def TreeRangesWrongFalsely : Prop := treeRangesRow.holds Try.pinned (OpenSpec.ofChange treeRangesWrong)

/-- 'broadsheetlaw6.TreeTells': WHATEVER THE INPUT: true; the input reads as it did. -/
def treeTellsSpec : ChangeSpec := { name := "treeTells", fn := fun _ => fun
  | [d1, d2, d3, d4, d5] => { results := [.lit (.bool true)], args := [d1, d2, d3, d4, d5] }
  | _ => none }
def treeTellsRow : OpenClaim := { program := "ytdklbecmnhpogaa", sum := "e447bb7cdfe06cf54130a36070684f9371659da2a1c7d69634fb2eb986de51a8", func := "broadsheet/broadsheetlaw6.TreeTells", spec := "treeTells", unfollowed := true, recurses := true, apart := false }
def TreeTellsSaid : Prop := treeTellsRow.holds Try.pinned (OpenSpec.ofChange treeTellsSpec)

/-- ITS FALSE NEIGHBOUR: 'it returns false'. Refute it at one input. -/
def treeTellsWrong : ChangeSpec := { name := "treeTells", fn := fun _ => fun
  | [d1, d2, d3, d4, d5] => { results := [.lit (.bool false)], args := [d1, d2, d3, d4, d5] }
  | _ => none }
def TreeTellsWrongFalsely : Prop := treeTellsRow.holds Try.pinned (OpenSpec.ofChange treeTellsWrong)

/- THE SECOND FORM. 'bulk': how many values and letters a reading holds, each counted each time it is reached (what is shared counts as often as it is met; a slice's spare places count too). A statement '..UptoSaid' is the law's where the arguments, and the package variables that the reading takes, are together of bulk at most 1048576: NARROWER than '..Said'. Prove '..Said' where nothing that the law and all that it calls make is longer than what came in: it says more and counts as full. Else prove '..UptoSaid'. A law counts once. -/
mutual
def uptoBulk {H : Type} : DataW H → Nat
  | .lit (.string bytes) => bytes.length + 1
  | .lit _ => 1
  | .nil => 1
  | .ptr d => uptoBulk d + 1
  | .slice elems spare => uptoBulkAll elems + uptoBulkAll spare + 1
  | .agg parts => uptoBulkAll parts + 1
  | .iface _ d => uptoBulk d + 1
  | .map entries => uptoBulkEntries entries + 1
  | .held _ => 1
def uptoBulkAll {H : Type} : List (DataW H) → Nat
  | [] => 0
  | d :: r => uptoBulk d + uptoBulkAll r
def uptoBulkEntries {H : Type} : List (Lit × DataW H) → Nat
  | [] => 0
  | x :: r => uptoBulkEntry x + uptoBulkEntries r
def uptoBulkEntry {H : Type} : Lit × DataW H → Nat
  | (.string bytes, d) => bytes.length + uptoBulk d + 1
  | (_, d) => uptoBulk d + 1
 end
def uptoSmall : (H : Type) → List (DataW H) → Bool := fun _ ds => decide (uptoBulkAll ds ≤ 1048576)
def OpenSpec.upto (s : _root_.Go.ChangeSpec) : _root_.Go.OpenSpec := { _root_.Go.OpenSpec.ofChange s with cond := some uptoSmall }

/-- 'broadsheetlaw6.TreeGiven', WHERE WHAT IT READS IS OF BULK AT MOST 1048576: true; the input reads as it did. -/
def treeGivenUptoRow : OpenClaim := { program := "ytdklbecmnhpogaa", sum := "e447bb7cdfe06cf54130a36070684f9371659da2a1c7d69634fb2eb986de51a8", func := "broadsheet/broadsheetlaw6.TreeGiven", spec := "treeGiven", unfollowed := true, recurses := true, apart := false, narrowed := true }
def TreeGivenUptoSaid : Prop := treeGivenUptoRow.holds Try.pinned (OpenSpec.upto treeGivenSpec)

/-- 'broadsheetlaw6.TreeAppends', WHERE WHAT IT READS IS OF BULK AT MOST 1048576: true; the input reads as it did. -/
def treeAppendsUptoRow : OpenClaim := { program := "ytdklbecmnhpogaa", sum := "e447bb7cdfe06cf54130a36070684f9371659da2a1c7d69634fb2eb986de51a8", func := "broadsheet/broadsheetlaw6.TreeAppends", spec := "treeAppends", unfollowed := true, recurses := true, apart := false, narrowed := true }
def TreeAppendsUptoSaid : Prop := treeAppendsUptoRow.holds Try.pinned (OpenSpec.upto treeAppendsSpec)

/-- 'broadsheetlaw6.TreeNumbers', WHERE WHAT IT READS IS OF BULK AT MOST 1048576: true; the input reads as it did. -/
def treeNumbersUptoRow : OpenClaim := { program := "ytdklbecmnhpogaa", sum := "e447bb7cdfe06cf54130a36070684f9371659da2a1c7d69634fb2eb986de51a8", func := "broadsheet/broadsheetlaw6.TreeNumbers", spec := "treeNumbers", unfollowed := true, recurses := true, apart := false, narrowed := true }
def TreeNumbersUptoSaid : Prop := treeNumbersUptoRow.holds Try.pinned (OpenSpec.upto treeNumbersSpec)

/-- 'broadsheetlaw6.TreeHalves', WHERE WHAT IT READS IS OF BULK AT MOST 1048576: true; the input reads as it did. -/
def treeHalvesUptoRow : OpenClaim := { program := "ytdklbecmnhpogaa", sum := "e447bb7cdfe06cf54130a36070684f9371659da2a1c7d69634fb2eb986de51a8", func := "broadsheet/broadsheetlaw6.TreeHalves", spec := "treeHalves", unfollowed := true, recurses := true, apart := false, narrowed := true }
def TreeHalvesUptoSaid : Prop := treeHalvesUptoRow.holds Try.pinned (OpenSpec.upto treeHalvesSpec)

/-- 'broadsheetlaw6.TreeRanges', WHERE WHAT IT READS IS OF BULK AT MOST 1048576: true; the input reads as it did. -/
def treeRangesUptoRow : OpenClaim := { program := "ytdklbecmnhpogaa", sum := "e447bb7cdfe06cf54130a36070684f9371659da2a1c7d69634fb2eb986de51a8", func := "broadsheet/broadsheetlaw6.TreeRanges", spec := "treeRanges", unfollowed := true, recurses := true, apart := false, narrowed := true }
def TreeRangesUptoSaid : Prop := treeRangesUptoRow.holds Try.pinned (OpenSpec.upto treeRangesSpec)

/-- 'broadsheetlaw6.TreeTells', WHERE WHAT IT READS IS OF BULK AT MOST 1048576: true; the input reads as it did. -/
def treeTellsUptoRow : OpenClaim := { program := "ytdklbecmnhpogaa", sum := "e447bb7cdfe06cf54130a36070684f9371659da2a1c7d69634fb2eb986de51a8", func := "broadsheet/broadsheetlaw6.TreeTells", spec := "treeTells", unfollowed := true, recurses := true, apart := false, narrowed := true }
def TreeTellsUptoSaid : Prop := treeTellsUptoRow.holds Try.pinned (OpenSpec.upto treeTellsSpec)

end Rows
end Go.Proofs.Ytdklbecmnhpogaa
