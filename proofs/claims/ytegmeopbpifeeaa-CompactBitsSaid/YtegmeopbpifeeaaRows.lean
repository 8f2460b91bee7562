/-
  No cell of these rows narrows 'for every input' (looked for: loops, veiled, ifaces, maps, wideKeys, modest, calm, conditions, laid).
  DERIVED. THE GIVEN ROWS OF THIS SEAT. 5 by the template 'for every input the law returns true; each argument reads behind the call as it read before'; 0 by the template 'total and deterministic' (their statements: YtegmeopbpifeeaaTotals.lean).
  GIVEN WITH THE SEED: the statements are not yours to turn. If you find one false, say at which input.
  Laid BY PROGRAM, IN A SANDBOX (cutbox-rows.mjs): the forced cells as the released guide's own fill.sh prints them over the translation 783891ba01235399… (all of the seat's roots in one cut). By AI agents, Wed Nov 11 2026. No macro, syntax, notation, axiom, sorry.
-/
import Derived.Test.YtegmeopbpifeeaaChecked
import GoSem.Claim
import GoSem.ClaimJoined
import GoSem.ClaimMapViews
import Derived.JoinedTies
import Derived.KernelRfl
namespace Go.Proofs.Ytegmeopbpifeeaa
/- THE CELL 'sum', in the pinned program and in every row, IS THE sha256 OF THE DUMP (.gsa) THAT YtegmeopbpifeeaaProg.lean LOADS. Nothing in Lean hashes anything: it is a label: what it is worth is what the hold of that sum in a sandbox is worth. -/
noncomputable def Try.pinned : Pinned := { name := "ytegmeopbpifeeaa", sum := "783891ba012353990551499e7acaa27707fb8325949ae4a9878811403d2cb1de", checked := Try.checked }
namespace Rows
def none {H : Type} : Left H := { results := [], args := [] }

/-- 'broadsheetlaw7.CompactRefused': WHATEVER THE INPUT: true; the input reads as it did. -/
def compactRefusedSpec : ChangeSpec := { name := "compactRefused", fn := fun _ => fun
  | [d1, d2] => { results := [.lit (.bool true)], args := [d1, d2] }
  | _ => none }
def compactRefusedRow : OpenClaim := { program := "ytegmeopbpifeeaa", sum := "783891ba012353990551499e7acaa27707fb8325949ae4a9878811403d2cb1de", func := "broadsheet/broadsheetlaw7.CompactRefused", spec := "compactRefused", unfollowed := true, recurses := true, apart := false }
def CompactRefusedSaid : Prop := compactRefusedRow.holds Try.pinned (OpenSpec.ofChange compactRefusedSpec)

/-- ITS FALSE NEIGHBOUR: 'it returns false'. Refute it at one input. -/
def compactRefusedWrong : ChangeSpec := { name := "compactRefused", fn := fun _ => fun
  | [d1, d2] => { results := [.lit (.bool false)], args := [d1, d2] }
  | _ => none }
def CompactRefusedWrongFalsely : Prop := compactRefusedRow.holds Try.pinned (OpenSpec.ofChange compactRefusedWrong)

/-- 'broadsheetlaw7.CompactNumbers': WHATEVER THE INPUT: true; the input reads as it did. -/
def compactNumbersSpec : ChangeSpec := { name := "compactNumbers", fn := fun _ => fun
  | [] => { results := [.lit (.bool true)], args := [] }
  | _ => none }
def compactNumbersRow : OpenClaim := { program := "ytegmeopbpifeeaa", sum := "783891ba012353990551499e7acaa27707fb8325949ae4a9878811403d2cb1de", func := "broadsheet/broadsheetlaw7.CompactNumbers", spec := "compactNumbers", unfollowed := true, recurses := true, apart := false }
def CompactNumbersSaid : Prop := compactNumbersRow.holds Try.pinned (OpenSpec.ofChange compactNumbersSpec)

/-- ITS FALSE NEIGHBOUR: 'it returns false'. Refute it at one input. -/
def compactNumbersWrong : ChangeSpec := { name := "compactNumbers", fn := fun _ => fun
  | [] => { results := [.lit (.bool false)], args := [] }
  | _ => none }
def CompactNumbersWrongFalsely : Prop := compactNumbersRow.holds Try.pinned (OpenSpec.ofChange compactNumbersWrong)

/-- 'broadsheetlaw7.CompactGrows': WHATEVER THE INPUT: true; the input reads as it did. -/
def compactGrowsSpec : ChangeSpec := { name := "compactGrows", fn := fun _ => fun
  | [d] => { results := [.lit (.bool true)], args := [d] }
  | _ => none }
def compactGrowsRow : OpenClaim := { program := "ytegmeopbpifeeaa", sum := "783891ba012353990551499e7acaa27707fb8325949ae4a9878811403d2cb1de", func := "broadsheet/broadsheetlaw7.CompactGrows", spec := "compactGrows", unfollowed := true, recurses := true, apart := false }
def CompactGrowsSaid : Prop := compactGrowsRow.holds Try.pinned (OpenSpec.ofChange compactGrowsSpec)

/-- ITS FALSE NEIGHBOUR: 'it returns false'. Refute it at one input. -/
def compactGrowsWrong : ChangeSpec := { name := "compactGrows", fn := fun _ => fun
  | [d] => { results := [.lit (.bool false)], args := [d] }
  | _ => none }
def CompactGrowsWrongFalsely : Prop := compactGrowsRow.holds Try.pinned (OpenSpec.ofChange compactGrowsWrong)

/-- 'broadsheetlaw7.CompactFrom': WHATEVER THE INPUT: true; the input reads as it did. -/
def compactFromSpec : ChangeSpec := { name := "compactFrom", fn := fun _ => fun
  | [d1, d2] => { results := [.lit (.bool true)], args := [d1, d2] }
  | _ => none }
def compactFromRow : OpenClaim := { program := "ytegmeopbpifeeaa", sum := "783891ba012353990551499e7acaa27707fb8325949ae4a9878811403d2cb1de", func := "broadsheet/broadsheetlaw7.CompactFrom", spec := "compactFrom", unfollowed := true, recurses := true, apart := false }
def CompactFromSaid : Prop := compactFromRow.holds Try.pinned (OpenSpec.ofChange compactFromSpec)

/-- ITS FALSE NEIGHBOUR: 'it returns false'. Refute it at one input. -/
def compactFromWrong : ChangeSpec := { name := "compactFrom", fn := fun _ => fun
  | [d1, d2] => { results := [.lit (.bool false)], args := [d1, d2] }
  | _ => none }
def CompactFromWrongFalsely : Prop := compactFromRow.holds Try.pinned (OpenSpec.ofChange compactFromWrong)

/-- 'broadsheetlaw7.CompactBits': WHATEVER THE INPUT: true; the input reads as it did. -/
def compactBitsSpec : ChangeSpec := { name := "compactBits", fn := fun _ => fun
  | [d] => { results := [.lit (.bool true)], args := [d] }
  | _ => none }
def compactBitsRow : OpenClaim := { program := "ytegmeopbpifeeaa", sum := "783891ba012353990551499e7acaa27707fb8325949ae4a9878811403d2cb1de", func := "broadsheet/broadsheetlaw7.CompactBits", spec := "compactBits", unfollowed := true, recurses := true, apart := false }
def CompactBitsSaid : Prop := compactBitsRow.holds Try.pinned (OpenSpec.ofChange compactBitsSpec)

/-- ITS FALSE NEIGHBOUR: 'it returns false'. Refute it at one input. -/
def compactBitsWrong : ChangeSpec := { name := "compactBits", fn := fun _ => fun
  | [d] => { results := [.lit (.bool false)], args := [d] }
  | _ => none }
def CompactBitsWrongFalsely : Prop := compactBitsRow.holds Try.pinned (OpenSpec.ofChange compactBitsWrong)

/- THE SECOND FORM. 'bulk': how many values and letters a reading holds, each counted each time it is reached (what is shared counts as often as it is met; a slice's spare places count too). A statement '..UptoSaid' is the law's where the arguments, and the package variables that the reading takes, are together of bulk at most 1048576: NARROWER than '..Said'. Prove '..Said' where nothing that the law and all that it calls make is longer than what came in: it says more and counts as full. Else prove '..UptoSaid'. A law counts once. -/
mutual
def uptoBulk {H : Type} : DataW H → Nat
  | .lit (.string bytes) => bytes.length + 1
  | .lit _ => 1
  | .nil => 1
  | .ptr d => uptoBulk d + 1
  | .slice elems spare => uptoBulkAll elems + uptoBulkAll spare + 1
  | .agg parts => uptoBulkAll parts + 1
  | .iface _ d => uptoBulk d + 1
  | .map entries => uptoBulkEntries entries + 1
  | .held _ => 1
def uptoBulkAll {H : Type} : List (DataW H) → Nat
  | [] => 0
  | d :: r => uptoBulk d + uptoBulkAll r
def uptoBulkEntries {H : Type} : List (Lit × DataW H) → Nat
  | [] => 0
  | x :: r => uptoBulkEntry x + uptoBulkEntries r
def uptoBulkEntry {H : Type} : Lit × DataW H → Nat
  | (.string bytes, d) => bytes.length + uptoBulk d + 1
  | (_, d) => uptoBulk d + 1
 end
def uptoSmall : (H : Type) → List (DataW H) → Bool := fun _ ds => decide (uptoBulkAll ds ≤ 1048576)
def OpenSpec.upto (s : _root_.Go.ChangeSpec) : _root_.Go.OpenSpec := { _root_.Go.OpenSpec.ofChange s with cond := some uptoSmall }

/-- 'broadsheetlaw7.CompactRefused', WHERE WHAT IT READS IS OF BULK AT MOST 1048576: true; the input reads as it did. -/
def compactRefusedUptoRow : OpenClaim := { program := "ytegmeopbpifeeaa", sum := "783891ba012353990551499e7acaa27707fb8325949ae4a9878811403d2cb1de", func := "broadsheet/broadsheetlaw7.CompactRefused", spec := "compactRefused", unfollowed := true, recurses := true, apart := false, narrowed := true }
def CompactRefusedUptoSaid : Prop := compactRefusedUptoRow.holds Try.pinned (OpenSpec.upto compactRefusedSpec)

/-- 'broadsheetlaw7.CompactNumbers', WHERE WHAT IT READS IS OF BULK AT MOST 1048576: true; the input reads as it did. -/
def compactNumbersUptoRow : OpenClaim := { program := "ytegmeopbpifeeaa", sum := "783891ba012353990551499e7acaa27707fb8325949ae4a9878811403d2cb1de", func := "broadsheet/broadsheetlaw7.CompactNumbers", spec := "compactNumbers", unfollowed := true, recurses := true, apart := false, narrowed := true }
def CompactNumbersUptoSaid : Prop := compactNumbersUptoRow.holds Try.pinned (OpenSpec.upto compactNumbersSpec)

/-- 'broadsheetlaw7.CompactGrows', WHERE WHAT IT READS IS OF BULK AT MOST 1048576: true; the input reads as it did. -/
def compactGrowsUptoRow : OpenClaim := { program := "ytegmeopbpifeeaa", sum := "783891ba012353990551499e7acaa27707fb8325949ae4a9878811403d2cb1de", func := "broadsheet/broadsheetlaw7.CompactGrows", spec := "compactGrows", unfollowed := true, recurses := true, apart := false, narrowed := true }
def CompactGrowsUptoSaid : Prop := compactGrowsUptoRow.holds Try.pinned (OpenSpec.upto compactGrowsSpec)

/-- 'broadsheetlaw7.CompactFrom', WHERE WHAT IT READS IS OF BULK AT MOST 1048576: true; the input reads as it did. -/
def compactFromUptoRow : OpenClaim := { program := "ytegmeopbpifeeaa", sum := "783891ba012353990551499e7acaa27707fb8325949ae4a9878811403d2cb1de", func := "broadsheet/broadsheetlaw7.CompactFrom", spec := "compactFrom", unfollowed := true, recurses := true, apart := false, narrowed := true }
def CompactFromUptoSaid : Prop := compactFromUptoRow.holds Try.pinned (OpenSpec.upto compactFromSpec)

/-- 'broadsheetlaw7.CompactBits', WHERE WHAT IT READS IS OF BULK AT MOST 1048576: true; the input reads as it did. -/
def compactBitsUptoRow : OpenClaim := { program := "ytegmeopbpifeeaa", sum := "783891ba012353990551499e7acaa27707fb8325949ae4a9878811403d2cb1de", func := "broadsheet/broadsheetlaw7.CompactBits", spec := "compactBits", unfollowed := true, recurses := true, apart := false, narrowed := true }
def CompactBitsUptoSaid : Prop := compactBitsUptoRow.holds Try.pinned (OpenSpec.upto compactBitsSpec)

end Rows
end Go.Proofs.Ytegmeopbpifeeaa
