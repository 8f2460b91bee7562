/-
  No cell of these rows narrows 'for every input' (looked for: loops, veiled, ifaces, maps, wideKeys, modest, calm, conditions, laid).
  DERIVED. THE GIVEN ROWS OF THIS SEAT. 9 by the template 'for every input the law returns true; each argument reads behind the call as it read before'; 0 by the template 'total and deterministic' (their statements: YtaghckfpnfkihaaTotals.lean).
  GIVEN WITH THE SEED: the statements are not yours to turn. If you find one false, say at which input.
  Laid BY PROGRAM, IN A SANDBOX (cutbox-rows.mjs): the forced cells as the released guide's own fill.sh prints them over the translation 180855c3c8759332… (all of the seat's roots in one cut). By AI agents, Wed Nov 11 2026. No macro, syntax, notation, axiom, sorry.
-/
import Derived.Test.YtaghckfpnfkihaaChecked
import GoSem.Claim
import GoSem.ClaimJoined
import GoSem.ClaimMapViews
import Derived.JoinedTies
import Derived.KernelRfl
namespace Go.Proofs.Ytaghckfpnfkihaa
/- THE CELL 'sum', in the pinned program and in every row, IS THE sha256 OF THE DUMP (.gsa) THAT YtaghckfpnfkihaaProg.lean LOADS. Nothing in Lean hashes anything: it is a label: what it is worth is what the hold of that sum in a sandbox is worth. -/
noncomputable def Try.pinned : Pinned := { name := "ytaghckfpnfkihaa", sum := "180855c3c87593322b869605875c6bb972a6f882eb5d82f69e47cb73d243f3ab", checked := Try.checked }
namespace Rows
def none {H : Type} : Left H := { results := [], args := [] }

/-- 'broadsheetlaw8.ProofLeads': WHATEVER THE INPUT: true; the input reads as it did. -/
def proofLeadsSpec : ChangeSpec := { name := "proofLeads", fn := fun _ => fun
  | [d1, d2, d3, d4, d5, d6, d7, d8, d9] => { results := [.lit (.bool true)], args := [d1, d2, d3, d4, d5, d6, d7, d8, d9] }
  | _ => none }
def proofLeadsRow : OpenClaim := { program := "ytaghckfpnfkihaa", sum := "180855c3c87593322b869605875c6bb972a6f882eb5d82f69e47cb73d243f3ab", func := "broadsheet/broadsheetlaw8.ProofLeads", spec := "proofLeads", unfollowed := true, recurses := true, apart := false }
def ProofLeadsSaid : Prop := proofLeadsRow.holds Try.pinned (OpenSpec.ofChange proofLeadsSpec)

/-- ITS FALSE NEIGHBOUR: 'it returns false'. Refute it at one input. -/
def proofLeadsWrong : ChangeSpec := { name := "proofLeads", fn := fun _ => fun
  | [d1, d2, d3, d4, d5, d6, d7, d8, d9] => { results := [.lit (.bool false)], args := [d1, d2, d3, d4, d5, d6, d7, d8, d9] }
  | _ => none }
def ProofLeadsWrongFalsely : Prop := proofLeadsRow.holds Try.pinned (OpenSpec.ofChange proofLeadsWrong)

/-- 'broadsheetlaw8.ProofLies': WHATEVER THE INPUT: true; the input reads as it did. -/
def proofLiesSpec : ChangeSpec := { name := "proofLies", fn := fun _ => fun
  | [d1, d2, d3] => { results := [.lit (.bool true)], args := [d1, d2, d3] }
  | _ => none }
def proofLiesRow : OpenClaim := { program := "ytaghckfpnfkihaa", sum := "180855c3c87593322b869605875c6bb972a6f882eb5d82f69e47cb73d243f3ab", func := "broadsheet/broadsheetlaw8.ProofLies", spec := "proofLies", unfollowed := true, recurses := true, apart := false }
def ProofLiesSaid : Prop := proofLiesRow.holds Try.pinned (OpenSpec.ofChange proofLiesSpec)

/-- ITS FALSE NEIGHBOUR: 'it returns false'. Refute it at one input. -/
def proofLiesWrong : ChangeSpec := { name := "proofLies", fn := fun _ => fun
  | [d1, d2, d3] => { results := [.lit (.bool false)], args := [d1, d2, d3] }
  | _ => none }
def ProofLiesWrongFalsely : Prop := proofLiesRow.holds Try.pinned (OpenSpec.ofChange proofLiesWrong)

/-- 'broadsheetlaw8.ProofSizes': WHATEVER THE INPUT: true; the input reads as it did. -/
def proofSizesSpec : ChangeSpec := { name := "proofSizes", fn := fun _ => fun
  | [d1, d2] => { results := [.lit (.bool true)], args := [d1, d2] }
  | _ => none }
def proofSizesRow : OpenClaim := { program := "ytaghckfpnfkihaa", sum := "180855c3c87593322b869605875c6bb972a6f882eb5d82f69e47cb73d243f3ab", func := "broadsheet/broadsheetlaw8.ProofSizes", spec := "proofSizes", unfollowed := true, recurses := true, apart := false }
def ProofSizesSaid : Prop := proofSizesRow.holds Try.pinned (OpenSpec.ofChange proofSizesSpec)

/-- ITS FALSE NEIGHBOUR: 'it returns false'. Refute it at one input. -/
def proofSizesWrong : ChangeSpec := { name := "proofSizes", fn := fun _ => fun
  | [d1, d2] => { results := [.lit (.bool false)], args := [d1, d2] }
  | _ => none }
def ProofSizesWrongFalsely : Prop := proofSizesRow.holds Try.pinned (OpenSpec.ofChange proofSizesWrong)

/-- 'broadsheetlaw8.ProofGrows': WHATEVER THE INPUT: true; the input reads as it did. -/
def proofGrowsSpec : ChangeSpec := { name := "proofGrows", fn := fun _ => fun
  | [d1, d2, d3, d4, d5, d6, d7, d8, d9, d10] => { results := [.lit (.bool true)], args := [d1, d2, d3, d4, d5, d6, d7, d8, d9, d10] }
  | _ => none }
def proofGrowsRow : OpenClaim := { program := "ytaghckfpnfkihaa", sum := "180855c3c87593322b869605875c6bb972a6f882eb5d82f69e47cb73d243f3ab", func := "broadsheet/broadsheetlaw8.ProofGrows", spec := "proofGrows", unfollowed := true, recurses := true, apart := false }
def ProofGrowsSaid : Prop := proofGrowsRow.holds Try.pinned (OpenSpec.ofChange proofGrowsSpec)

/-- ITS FALSE NEIGHBOUR: 'it returns false'. Refute it at one input. -/
def proofGrowsWrong : ChangeSpec := { name := "proofGrows", fn := fun _ => fun
  | [d1, d2, d3, d4, d5, d6, d7, d8, d9, d10] => { results := [.lit (.bool false)], args := [d1, d2, d3, d4, d5, d6, d7, d8, d9, d10] }
  | _ => none }
def ProofGrowsWrongFalsely : Prop := proofGrowsRow.holds Try.pinned (OpenSpec.ofChange proofGrowsWrong)

/-- 'broadsheetlaw8.ProofNumbers': WHATEVER THE INPUT: true; the input reads as it did. -/
def proofNumbersSpec : ChangeSpec := { name := "proofNumbers", fn := fun _ => fun
  | [] => { results := [.lit (.bool true)], args := [] }
  | _ => none }
def proofNumbersRow : OpenClaim := { program := "ytaghckfpnfkihaa", sum := "180855c3c87593322b869605875c6bb972a6f882eb5d82f69e47cb73d243f3ab", func := "broadsheet/broadsheetlaw8.ProofNumbers", spec := "proofNumbers", unfollowed := true, recurses := true, apart := false }
def ProofNumbersSaid : Prop := proofNumbersRow.holds Try.pinned (OpenSpec.ofChange proofNumbersSpec)

/-- ITS FALSE NEIGHBOUR: 'it returns false'. Refute it at one input. -/
def proofNumbersWrong : ChangeSpec := { name := "proofNumbers", fn := fun _ => fun
  | [] => { results := [.lit (.bool false)], args := [] }
  | _ => none }
def ProofNumbersWrongFalsely : Prop := proofNumbersRow.holds Try.pinned (OpenSpec.ofChange proofNumbersWrong)

/-- 'broadsheetlaw8.ProofTells': WHATEVER THE INPUT: true; the input reads as it did. -/
def proofTellsSpec : ChangeSpec := { name := "proofTells", fn := fun _ => fun
  | [d1, d2, d3] => { results := [.lit (.bool true)], args := [d1, d2, d3] }
  | _ => none }
def proofTellsRow : OpenClaim := { program := "ytaghckfpnfkihaa", sum := "180855c3c87593322b869605875c6bb972a6f882eb5d82f69e47cb73d243f3ab", func := "broadsheet/broadsheetlaw8.ProofTells", spec := "proofTells", unfollowed := true, recurses := true, apart := false }
def ProofTellsSaid : Prop := proofTellsRow.holds Try.pinned (OpenSpec.ofChange proofTellsSpec)

/-- ITS FALSE NEIGHBOUR: 'it returns false'. Refute it at one input. -/
def proofTellsWrong : ChangeSpec := { name := "proofTells", fn := fun _ => fun
  | [d1, d2, d3] => { results := [.lit (.bool false)], args := [d1, d2, d3] }
  | _ => none }
def ProofTellsWrongFalsely : Prop := proofTellsRow.holds Try.pinned (OpenSpec.ofChange proofTellsWrong)

/-- 'broadsheetlaw8.ProofChains': WHATEVER THE INPUT: true; the input reads as it did. -/
def proofChainsSpec : ChangeSpec := { name := "proofChains", fn := fun _ => fun
  | [d] => { results := [.lit (.bool true)], args := [d] }
  | _ => none }
def proofChainsRow : OpenClaim := { program := "ytaghckfpnfkihaa", sum := "180855c3c87593322b869605875c6bb972a6f882eb5d82f69e47cb73d243f3ab", func := "broadsheet/broadsheetlaw8.ProofChains", spec := "proofChains", unfollowed := true, recurses := true, apart := false }
def ProofChainsSaid : Prop := proofChainsRow.holds Try.pinned (OpenSpec.ofChange proofChainsSpec)

/-- ITS FALSE NEIGHBOUR: 'it returns false'. Refute it at one input. -/
def proofChainsWrong : ChangeSpec := { name := "proofChains", fn := fun _ => fun
  | [d] => { results := [.lit (.bool false)], args := [d] }
  | _ => none }
def ProofChainsWrongFalsely : Prop := proofChainsRow.holds Try.pinned (OpenSpec.ofChange proofChainsWrong)

/-- 'broadsheetlaw8.ProofEnds': WHATEVER THE INPUT: true; the input reads as it did. -/
def proofEndsSpec : ChangeSpec := { name := "proofEnds", fn := fun _ => fun
  | [d1, d2] => { results := [.lit (.bool true)], args := [d1, d2] }
  | _ => none }
def proofEndsRow : OpenClaim := { program := "ytaghckfpnfkihaa", sum := "180855c3c87593322b869605875c6bb972a6f882eb5d82f69e47cb73d243f3ab", func := "broadsheet/broadsheetlaw8.ProofEnds", spec := "proofEnds", unfollowed := true, recurses := true, apart := false }
def ProofEndsSaid : Prop := proofEndsRow.holds Try.pinned (OpenSpec.ofChange proofEndsSpec)

/-- ITS FALSE NEIGHBOUR: 'it returns false'. Refute it at one input. -/
def proofEndsWrong : ChangeSpec := { name := "proofEnds", fn := fun _ => fun
  | [d1, d2] => { results := [.lit (.bool false)], args := [d1, d2] }
  | _ => none }
def ProofEndsWrongFalsely : Prop := proofEndsRow.holds Try.pinned (OpenSpec.ofChange proofEndsWrong)

/-- 'broadsheetlaw8.ProofShared': WHATEVER THE INPUT: true; the input reads as it did. -/
def proofSharedSpec : ChangeSpec := { name := "proofShared", fn := fun _ => fun
  | [d1, d2, d3] => { results := [.lit (.bool true)], args := [d1, d2, d3] }
  | _ => none }
def proofSharedRow : OpenClaim := { program := "ytaghckfpnfkihaa", sum := "180855c3c87593322b869605875c6bb972a6f882eb5d82f69e47cb73d243f3ab", func := "broadsheet/broadsheetlaw8.ProofShared", spec := "proofShared", unfollowed := true, recurses := true, apart := false }
def ProofSharedSaid : Prop := proofSharedRow.holds Try.pinned (OpenSpec.ofChange proofSharedSpec)

/-- ITS FALSE NEIGHBOUR: 'it returns false'. Refute it at one input. -/
def proofSharedWrong : ChangeSpec := { name := "proofShared", fn := fun _ => fun
  | [d1, d2, d3] => { results := [.lit (.bool false)], args := [d1, d2, d3] }
  | _ => none }
def ProofSharedWrongFalsely : Prop := proofSharedRow.holds Try.pinned (OpenSpec.ofChange proofSharedWrong)

/- THE SECOND FORM. 'bulk': how many values and letters a reading holds, each counted each time it is reached (what is shared counts as often as it is met; a slice's spare places count too). A statement '..UptoSaid' is the law's where the arguments, and the package variables that the reading takes, are together of bulk at most 1048576: NARROWER than '..Said'. Prove '..Said' where nothing that the law and all that it calls make is longer than what came in: it says more and counts as full. Else prove '..UptoSaid'. A law counts once. -/
mutual
def uptoBulk {H : Type} : DataW H → Nat
  | .lit (.string bytes) => bytes.length + 1
  | .lit _ => 1
  | .nil => 1
  | .ptr d => uptoBulk d + 1
  | .slice elems spare => uptoBulkAll elems + uptoBulkAll spare + 1
  | .agg parts => uptoBulkAll parts + 1
  | .iface _ d => uptoBulk d + 1
  | .map entries => uptoBulkEntries entries + 1
  | .held _ => 1
def uptoBulkAll {H : Type} : List (DataW H) → Nat
  | [] => 0
  | d :: r => uptoBulk d + uptoBulkAll r
def uptoBulkEntries {H : Type} : List (Lit × DataW H) → Nat
  | [] => 0
  | x :: r => uptoBulkEntry x + uptoBulkEntries r
def uptoBulkEntry {H : Type} : Lit × DataW H → Nat
  | (.string bytes, d) => bytes.length + uptoBulk d + 1
  | (_, d) => uptoBulk d + 1
 end
def uptoSmall : (H : Type) → List (DataW H) → Bool := fun _ ds => decide (uptoBulkAll ds ≤ 1048576)
def OpenSpec.upto (s : _root_.Go.ChangeSpec) : _root_.Go.OpenSpec := { _root_.Go.OpenSpec.ofChange s with cond := some uptoSmall }

/-- 'broadsheetlaw8.ProofLeads', WHERE WHAT IT READS IS OF BULK AT MOST 1048576: true; the input reads as it did. -/
def proofLeadsUptoRow : OpenClaim := { program := "ytaghckfpnfkihaa", sum := "180855c3c87593322b869605875c6bb972a6f882eb5d82f69e47cb73d243f3ab", func := "broadsheet/broadsheetlaw8.ProofLeads", spec := "proofLeads", unfollowed := true, recurses := true, apart := false, narrowed := true }
def ProofLeadsUptoSaid : Prop := proofLeadsUptoRow.holds Try.pinned (OpenSpec.upto proofLeadsSpec)

/-- 'broadsheetlaw8.ProofLies', WHERE WHAT IT READS IS OF BULK AT MOST 1048576: true; the input reads as it did. -/
def proofLiesUptoRow : OpenClaim := { program := "ytaghckfpnfkihaa", sum := "180855c3c87593322b869605875c6bb972a6f882eb5d82f69e47cb73d243f3ab", func := "broadsheet/broadsheetlaw8.ProofLies", spec := "proofLies", unfollowed := true, recurses := true, apart := false, narrowed := true }
def ProofLiesUptoSaid : Prop := proofLiesUptoRow.holds Try.pinned (OpenSpec.upto proofLiesSpec)

/-- 'broadsheetlaw8.ProofSizes', WHERE WHAT IT READS IS OF BULK AT MOST 1048576: true; the input reads as it did. -/
def proofSizesUptoRow : OpenClaim := { program := "ytaghckfpnfkihaa", sum := "180855c3c87593322b869605875c6bb972a6f882eb5d82f69e47cb73d243f3ab", func := "broadsheet/broadsheetlaw8.ProofSizes", spec := "proofSizes", unfollowed := true, recurses := true, apart := false, narrowed := true }
def ProofSizesUptoSaid : Prop := proofSizesUptoRow.holds Try.pinned (OpenSpec.upto proofSizesSpec)

/-- 'broadsheetlaw8.ProofGrows', WHERE WHAT IT READS IS OF BULK AT MOST 1048576: true; the input reads as it did. -/
def proofGrowsUptoRow : OpenClaim := { program := "ytaghckfpnfkihaa", sum := "180855c3c87593322b869605875c6bb972a6f882eb5d82f69e47cb73d243f3ab", func := "broadsheet/broadsheetlaw8.ProofGrows", spec := "proofGrows", unfollowed := true, recurses := true, apart := false, narrowed := true }
def ProofGrowsUptoSaid : Prop := proofGrowsUptoRow.holds Try.pinned (OpenSpec.upto proofGrowsSpec)

/-- 'broadsheetlaw8.ProofNumbers', WHERE WHAT IT READS IS OF BULK AT MOST 1048576: true; the input reads as it did. -/
def proofNumbersUptoRow : OpenClaim := { program := "ytaghckfpnfkihaa", sum := "180855c3c87593322b869605875c6bb972a6f882eb5d82f69e47cb73d243f3ab", func := "broadsheet/broadsheetlaw8.ProofNumbers", spec := "proofNumbers", unfollowed := true, recurses := true, apart := false, narrowed := true }
def ProofNumbersUptoSaid : Prop := proofNumbersUptoRow.holds Try.pinned (OpenSpec.upto proofNumbersSpec)

/-- 'broadsheetlaw8.ProofTells', WHERE WHAT IT READS IS OF BULK AT MOST 1048576: true; the input reads as it did. -/
def proofTellsUptoRow : OpenClaim := { program := "ytaghckfpnfkihaa", sum := "180855c3c87593322b869605875c6bb972a6f882eb5d82f69e47cb73d243f3ab", func := "broadsheet/broadsheetlaw8.ProofTells", spec := "proofTells", unfollowed := true, recurses := true, apart := false, narrowed := true }
def ProofTellsUptoSaid : Prop := proofTellsUptoRow.holds Try.pinned (OpenSpec.upto proofTellsSpec)

/-- 'broadsheetlaw8.ProofChains', WHERE WHAT IT READS IS OF BULK AT MOST 1048576: true; the input reads as it did. -/
def proofChainsUptoRow : OpenClaim := { program := "ytaghckfpnfkihaa", sum := "180855c3c87593322b869605875c6bb972a6f882eb5d82f69e47cb73d243f3ab", func := "broadsheet/broadsheetlaw8.ProofChains", spec := "proofChains", unfollowed := true, recurses := true, apart := false, narrowed := true }
def ProofChainsUptoSaid : Prop := proofChainsUptoRow.holds Try.pinned (OpenSpec.upto proofChainsSpec)

/-- 'broadsheetlaw8.ProofEnds', WHERE WHAT IT READS IS OF BULK AT MOST 1048576: true; the input reads as it did. -/
def proofEndsUptoRow : OpenClaim := { program := "ytaghckfpnfkihaa", sum := "180855c3c87593322b869605875c6bb972a6f882eb5d82f69e47cb73d243f3ab", func := "broadsheet/broadsheetlaw8.ProofEnds", spec := "proofEnds", unfollowed := true, recurses := true, apart := false, narrowed := true }
def ProofEndsUptoSaid : Prop := proofEndsUptoRow.holds Try.pinned (OpenSpec.upto proofEndsSpec)

/-- 'broadsheetlaw8.ProofShared', WHERE WHAT IT READS IS OF BULK AT MOST 1048576: true; the input reads as it did. -/
def proofSharedUptoRow : OpenClaim := { program := "ytaghckfpnfkihaa", sum := "180855c3c87593322b869605875c6bb972a6f882eb5d82f69e47cb73d243f3ab", func := "broadsheet/broadsheetlaw8.ProofShared", spec := "proofShared", unfollowed := true, recurses := true, apart := false, narrowed := true }
def ProofSharedUptoSaid : Prop := proofSharedUptoRow.holds Try.pinned (OpenSpec.upto proofSharedSpec)

end Rows
end Go.Proofs.Ytaghckfpnfkihaa
