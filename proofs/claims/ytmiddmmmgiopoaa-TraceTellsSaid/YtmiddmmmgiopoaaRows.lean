/-
  No cell of these rows narrows 'for every input' (looked for: loops, veiled, ifaces, maps, wideKeys, modest, calm, conditions, laid).
  DERIVED. THE GIVEN ROWS OF THIS SEAT. 5 by the template 'for every input the law returns true; each argument reads behind the call as it read before'; 0 by the template 'total and deterministic' (their statements: YtmiddmmmgiopoaaTotals.lean).
  GIVEN WITH THE SEED: the statements are not yours to turn. If you find one false, say at which input.
  Laid BY PROGRAM, IN A SANDBOX (cutbox-rows.mjs): the forced cells as the released guide's own fill.sh prints them over the translation 2498335a53135972… (all of the seat's roots in one cut). By AI agents, Wed Nov 11 2026. No macro, syntax, notation, axiom, sorry.
-/
import Derived.Test.YtmiddmmmgiopoaaChecked
import GoSem.Claim
import GoSem.ClaimJoined
import GoSem.ClaimMapViews
import Derived.JoinedTies
import Derived.KernelRfl
namespace Go.Proofs.Ytmiddmmmgiopoaa
/- THE CELL 'sum', in the pinned program and in every row, IS THE sha256 OF THE DUMP (.gsa) THAT YtmiddmmmgiopoaaProg.lean LOADS. Nothing in Lean hashes anything: it is a label: what it is worth is what the hold of that sum in a sandbox is worth. -/
noncomputable def Try.pinned : Pinned := { name := "ytmiddmmmgiopoaa", sum := "2498335a5313597243e2afe8ce8dea5d46c5bf82e86c23a75f661e2ae3119d38", checked := Try.checked }
namespace Rows
def none {H : Type} : Left H := { results := [], args := [] }

/-- 'broadsheetlaw25.TraceBegins': WHATEVER THE INPUT: true; the input reads as it did. -/
def traceBeginsSpec : ChangeSpec := { name := "traceBegins", fn := fun _ => fun
  | [d1, d2, d3] => { results := [.lit (.bool true)], args := [d1, d2, d3] }
  | _ => none }
def traceBeginsRow : OpenClaim := { program := "ytmiddmmmgiopoaa", sum := "2498335a5313597243e2afe8ce8dea5d46c5bf82e86c23a75f661e2ae3119d38", func := "broadsheet/broadsheetlaw25.TraceBegins", spec := "traceBegins", apart := false }
def TraceBeginsSaid : Prop := traceBeginsRow.holds Try.pinned (OpenSpec.ofChange traceBeginsSpec)

/-- ITS FALSE NEIGHBOUR: 'it returns false'. Refute it at one input. -/
def traceBeginsWrong : ChangeSpec := { name := "traceBegins", fn := fun _ => fun
  | [d1, d2, d3] => { results := [.lit (.bool false)], args := [d1, d2, d3] }
  | _ => none }
def TraceBeginsWrongFalsely : Prop := traceBeginsRow.holds Try.pinned (OpenSpec.ofChange traceBeginsWrong)

/-- 'broadsheetlaw25.TraceQuorums': WHATEVER THE INPUT: true; the input reads as it did. -/
def traceQuorumsSpec : ChangeSpec := { name := "traceQuorums", fn := fun _ => fun
  | [d1, d2, d3, d4, d5] => { results := [.lit (.bool true)], args := [d1, d2, d3, d4, d5] }
  | _ => none }
def traceQuorumsRow : OpenClaim := { program := "ytmiddmmmgiopoaa", sum := "2498335a5313597243e2afe8ce8dea5d46c5bf82e86c23a75f661e2ae3119d38", func := "broadsheet/broadsheetlaw25.TraceQuorums", spec := "traceQuorums", apart := false }
def TraceQuorumsSaid : Prop := traceQuorumsRow.holds Try.pinned (OpenSpec.ofChange traceQuorumsSpec)

/-- ITS FALSE NEIGHBOUR: 'it returns false'. Refute it at one input. -/
def traceQuorumsWrong : ChangeSpec := { name := "traceQuorums", fn := fun _ => fun
  | [d1, d2, d3, d4, d5] => { results := [.lit (.bool false)], args := [d1, d2, d3, d4, d5] }
  | _ => none }
def TraceQuorumsWrongFalsely : Prop := traceQuorumsRow.holds Try.pinned (OpenSpec.ofChange traceQuorumsWrong)

/-- 'broadsheetlaw25.TraceLists': WHATEVER THE INPUT: true; the input reads as it did. -/
def traceListsSpec : ChangeSpec := { name := "traceLists", fn := fun _ => fun
  | [d1, d2] => { results := [.lit (.bool true)], args := [d1, d2] }
  | _ => none }
def traceListsRow : OpenClaim := { program := "ytmiddmmmgiopoaa", sum := "2498335a5313597243e2afe8ce8dea5d46c5bf82e86c23a75f661e2ae3119d38", func := "broadsheet/broadsheetlaw25.TraceLists", spec := "traceLists", apart := false }
def TraceListsSaid : Prop := traceListsRow.holds Try.pinned (OpenSpec.ofChange traceListsSpec)

/-- ITS FALSE NEIGHBOUR: 'it returns false'. Refute it at one input. -/
def traceListsWrong : ChangeSpec := { name := "traceLists", fn := fun _ => fun
  | [d1, d2] => { results := [.lit (.bool false)], args := [d1, d2] }
  | _ => none }
def TraceListsWrongFalsely : Prop := traceListsRow.holds Try.pinned (OpenSpec.ofChange traceListsWrong)

/-- 'broadsheetlaw25.TraceNumbers': WHATEVER THE INPUT: true; the input reads as it did. -/
def traceNumbersSpec : ChangeSpec := { name := "traceNumbers", fn := fun _ => fun
  | [] => { results := [.lit (.bool true)], args := [] }
  | _ => none }
def traceNumbersRow : OpenClaim := { program := "ytmiddmmmgiopoaa", sum := "2498335a5313597243e2afe8ce8dea5d46c5bf82e86c23a75f661e2ae3119d38", func := "broadsheet/broadsheetlaw25.TraceNumbers", spec := "traceNumbers", apart := false }
def TraceNumbersSaid : Prop := traceNumbersRow.holds Try.pinned (OpenSpec.ofChange traceNumbersSpec)

/-- ITS FALSE NEIGHBOUR: 'it returns false'. Refute it at one input. -/
def traceNumbersWrong : ChangeSpec := { name := "traceNumbers", fn := fun _ => fun
  | [] => { results := [.lit (.bool false)], args := [] }
  | _ => none }
def TraceNumbersWrongFalsely : Prop := traceNumbersRow.holds Try.pinned (OpenSpec.ofChange traceNumbersWrong)

/-- 'broadsheetlaw25.TraceTells': WHATEVER THE INPUT: true; the input reads as it did. -/
def traceTellsSpec : ChangeSpec := { name := "traceTells", fn := fun _ => fun
  | [d1, d2, d3, d4, d5, d6, d7] => { results := [.lit (.bool true)], args := [d1, d2, d3, d4, d5, d6, d7] }
  | _ => none }
def traceTellsRow : OpenClaim := { program := "ytmiddmmmgiopoaa", sum := "2498335a5313597243e2afe8ce8dea5d46c5bf82e86c23a75f661e2ae3119d38", func := "broadsheet/broadsheetlaw25.TraceTells", spec := "traceTells", apart := false }
def TraceTellsSaid : Prop := traceTellsRow.holds Try.pinned (OpenSpec.ofChange traceTellsSpec)

/-- ITS FALSE NEIGHBOUR: 'it returns false'. Refute it at one input. -/
def traceTellsWrong : ChangeSpec := { name := "traceTells", fn := fun _ => fun
  | [d1, d2, d3, d4, d5, d6, d7] => { results := [.lit (.bool false)], args := [d1, d2, d3, d4, d5, d6, d7] }
  | _ => none }
def TraceTellsWrongFalsely : Prop := traceTellsRow.holds Try.pinned (OpenSpec.ofChange traceTellsWrong)

/- THE SECOND FORM. 'bulk': how many values and letters a reading holds, each counted each time it is reached (what is shared counts as often as it is met; a slice's spare places count too). A statement '..UptoSaid' is the law's where the arguments, and the package variables that the reading takes, are together of bulk at most 1048576: NARROWER than '..Said'. Prove '..Said' where nothing that the law and all that it calls make is longer than what came in: it says more and counts as full. Else prove '..UptoSaid'. A law counts once. -/
mutual
def uptoBulk {H : Type} : DataW H → Nat
  | .lit (.string bytes) => bytes.length + 1
  | .lit _ => 1
  | .nil => 1
  | .ptr d => uptoBulk d + 1
  | .slice elems spare => uptoBulkAll elems + uptoBulkAll spare + 1
  | .agg parts => uptoBulkAll parts + 1
  | .iface _ d => uptoBulk d + 1
  | .map entries => uptoBulkEntries entries + 1
  | .held _ => 1
def uptoBulkAll {H : Type} : List (DataW H) → Nat
  | [] => 0
  | d :: r => uptoBulk d + uptoBulkAll r
def uptoBulkEntries {H : Type} : List (Lit × DataW H) → Nat
  | [] => 0
  | x :: r => uptoBulkEntry x + uptoBulkEntries r
def uptoBulkEntry {H : Type} : Lit × DataW H → Nat
  | (.string bytes, d) => bytes.length + uptoBulk d + 1
  | (_, d) => uptoBulk d + 1
 end
def uptoSmall : (H : Type) → List (DataW H) → Bool := fun _ ds => decide (uptoBulkAll ds ≤ 1048576)
def OpenSpec.upto (s : _root_.Go.ChangeSpec) : _root_.Go.OpenSpec := { _root_.Go.OpenSpec.ofChange s with cond := some uptoSmall }

/-- 'broadsheetlaw25.TraceBegins', WHERE WHAT IT READS IS OF BULK AT MOST 1048576: true; the input reads as it did. -/
def traceBeginsUptoRow : OpenClaim := { program := "ytmiddmmmgiopoaa", sum := "2498335a5313597243e2afe8ce8dea5d46c5bf82e86c23a75f661e2ae3119d38", func := "broadsheet/broadsheetlaw25.TraceBegins", spec := "traceBegins", apart := false, narrowed := true }
def TraceBeginsUptoSaid : Prop := traceBeginsUptoRow.holds Try.pinned (OpenSpec.upto traceBeginsSpec)

/-- 'broadsheetlaw25.TraceQuorums', WHERE WHAT IT READS IS OF BULK AT MOST 1048576: true; the input reads as it did. -/
def traceQuorumsUptoRow : OpenClaim := { program := "ytmiddmmmgiopoaa", sum := "2498335a5313597243e2afe8ce8dea5d46c5bf82e86c23a75f661e2ae3119d38", func := "broadsheet/broadsheetlaw25.TraceQuorums", spec := "traceQuorums", apart := false, narrowed := true }
def TraceQuorumsUptoSaid : Prop := traceQuorumsUptoRow.holds Try.pinned (OpenSpec.upto traceQuorumsSpec)

/-- 'broadsheetlaw25.TraceLists', WHERE WHAT IT READS IS OF BULK AT MOST 1048576: true; the input reads as it did. -/
def traceListsUptoRow : OpenClaim := { program := "ytmiddmmmgiopoaa", sum := "2498335a5313597243e2afe8ce8dea5d46c5bf82e86c23a75f661e2ae3119d38", func := "broadsheet/broadsheetlaw25.TraceLists", spec := "traceLists", apart := false, narrowed := true }
def TraceListsUptoSaid : Prop := traceListsUptoRow.holds Try.pinned (OpenSpec.upto traceListsSpec)

/-- 'broadsheetlaw25.TraceNumbers', WHERE WHAT IT READS IS OF BULK AT MOST 1048576: true; the input reads as it did. -/
def traceNumbersUptoRow : OpenClaim := { program := "ytmiddmmmgiopoaa", sum := "2498335a5313597243e2afe8ce8dea5d46c5bf82e86c23a75f661e2ae3119d38", func := "broadsheet/broadsheetlaw25.TraceNumbers", spec := "traceNumbers", apart := false, narrowed := true }
def TraceNumbersUptoSaid : Prop := traceNumbersUptoRow.holds Try.pinned (OpenSpec.upto traceNumbersSpec)

/-- 'broadsheetlaw25.TraceTells', WHERE WHAT IT READS IS OF BULK AT MOST 1048576: true; the input reads as it did. -/
def traceTellsUptoRow : OpenClaim := { program := "ytmiddmmmgiopoaa", sum := "2498335a5313597243e2afe8ce8dea5d46c5bf82e86c23a75f661e2ae3119d38", func := "broadsheet/broadsheetlaw25.TraceTells", spec := "traceTells", apart := false, narrowed := true }
def TraceTellsUptoSaid : Prop := traceTellsUptoRow.holds Try.pinned (OpenSpec.upto traceTellsSpec)

end Rows
end Go.Proofs.Ytmiddmmmgiopoaa
