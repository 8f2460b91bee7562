/-
  No cell of these rows narrows 'for every input' (looked for: loops, veiled, ifaces, maps, wideKeys, modest, calm, conditions, laid).
  DERIVED. THE GIVEN ROWS OF THIS SEAT. 8 by the template 'for every input the law returns true; each argument reads behind the call as it read before'; 0 by the template 'total and deterministic' (their statements: YtccekbdjebohcaaGreatTotals.lean).
  GIVEN WITH THE SEED: the statements are not yours to turn. If you find one false, say at which input.
  Laid BY PROGRAM, IN A SANDBOX (cutbox-rows.mjs): the forced cells as the released guide's own fill.sh prints them over the translation 8b91a070e891a2ab… (all of the seat's roots in one cut). By AI agents, Wed Nov 11 2026. No macro, syntax, notation, axiom, sorry.
-/
import Derived.Test.YtccekbdjebohcaaGreatChecked
import GoSem.Claim
import GoSem.ClaimJoined
import GoSem.ClaimMapViews
import Derived.JoinedTies
import Derived.KernelRfl
namespace Go.Proofs.YtccekbdjebohcaaGreat
/- THE CELL 'sum', in the pinned program and in every row, IS THE sha256 OF THE DUMP (.gsa) THAT YtccekbdjebohcaaGreatProg.lean LOADS. Nothing in Lean hashes anything: it is a label: what it is worth is what the hold of that sum in a sandbox is worth. -/
noncomputable def Tryz.pinned : Pinned := { name := "ytccekbdjebohcaagreat", sum := "8b91a070e891a2ab25e3e6d44205fd72f0bb0aebf1f5aef8cacdeb3354b679c7", checked := Tryz.checked }
namespace Rows
def none {H : Type} : Left H := { results := [], args := [] }

/-- 'broadsheettop.TopLedgers': WHATEVER THE INPUT: true; the input reads as it did. -/
def topLedgersSpec : ChangeSpec := { name := "topLedgers", fn := fun _ => fun
  | [d1, d2] => { results := [.lit (.bool true)], args := [d1, d2] }
  | _ => none }
def topLedgersRow : OpenClaim := { program := "ytccekbdjebohcaagreat", sum := "8b91a070e891a2ab25e3e6d44205fd72f0bb0aebf1f5aef8cacdeb3354b679c7", func := "broadsheet/broadsheettop.TopLedgers", spec := "topLedgers", unfollowed := true, recurses := true, plainKeys := false, apart := false }
def TopLedgersSaid : Prop := topLedgersRow.holds Tryz.pinned (OpenSpec.ofChange topLedgersSpec)

/-- ITS FALSE NEIGHBOUR: 'it returns false'. Refute it at one input. -/
def topLedgersWrong : ChangeSpec := { name := "topLedgers", fn := fun _ => fun
  | [d1, d2] => { results := [.lit (.bool false)], args := [d1, d2] }
  | _ => none }
def TopLedgersWrongFalsely : Prop := topLedgersRow.holds Tryz.pinned (OpenSpec.ofChange topLedgersWrong)

/-- 'broadsheettop.TopNames': WHATEVER THE INPUT: true; the input reads as it did. -/
def topNamesSpec : ChangeSpec := { name := "topNames", fn := fun _ => fun
  | [d1, d2, d3] => { results := [.lit (.bool true)], args := [d1, d2, d3] }
  | _ => none }
def topNamesRow : OpenClaim := { program := "ytccekbdjebohcaagreat", sum := "8b91a070e891a2ab25e3e6d44205fd72f0bb0aebf1f5aef8cacdeb3354b679c7", func := "broadsheet/broadsheettop.TopNames", spec := "topNames", unfollowed := true, recurses := true, plainKeys := false, apart := false }
def TopNamesSaid : Prop := topNamesRow.holds Tryz.pinned (OpenSpec.ofChange topNamesSpec)

/-- ITS FALSE NEIGHBOUR: 'it returns false'. Refute it at one input. -/
def topNamesWrong : ChangeSpec := { name := "topNames", fn := fun _ => fun
  | [d1, d2, d3] => { results := [.lit (.bool false)], args := [d1, d2, d3] }
  | _ => none }
def TopNamesWrongFalsely : Prop := topNamesRow.holds Tryz.pinned (OpenSpec.ofChange topNamesWrong)

/-- 'broadsheettop.TopMessages': WHATEVER THE INPUT: true; the input reads as it did. -/
def topMessagesSpec : ChangeSpec := { name := "topMessages", fn := fun _ => fun
  | [d1, d2] => { results := [.lit (.bool true)], args := [d1, d2] }
  | _ => none }
def topMessagesRow : OpenClaim := { program := "ytccekbdjebohcaagreat", sum := "8b91a070e891a2ab25e3e6d44205fd72f0bb0aebf1f5aef8cacdeb3354b679c7", func := "broadsheet/broadsheettop.TopMessages", spec := "topMessages", unfollowed := true, recurses := true, plainKeys := false, apart := false }
def TopMessagesSaid : Prop := topMessagesRow.holds Tryz.pinned (OpenSpec.ofChange topMessagesSpec)

/-- ITS FALSE NEIGHBOUR: 'it returns false'. Refute it at one input. -/
def topMessagesWrong : ChangeSpec := { name := "topMessages", fn := fun _ => fun
  | [d1, d2] => { results := [.lit (.bool false)], args := [d1, d2] }
  | _ => none }
def TopMessagesWrongFalsely : Prop := topMessagesRow.holds Tryz.pinned (OpenSpec.ofChange topMessagesWrong)

/-- 'broadsheettop.TopTwoMonitors': WHATEVER THE INPUT: true; the input reads as it did. -/
def topTwoMonitorsSpec : ChangeSpec := { name := "topTwoMonitors", fn := fun _ => fun
  | [d1, d2] => { results := [.lit (.bool true)], args := [d1, d2] }
  | _ => none }
def topTwoMonitorsRow : OpenClaim := { program := "ytccekbdjebohcaagreat", sum := "8b91a070e891a2ab25e3e6d44205fd72f0bb0aebf1f5aef8cacdeb3354b679c7", func := "broadsheet/broadsheettop.TopTwoMonitors", spec := "topTwoMonitors", unfollowed := true, recurses := true, plainKeys := false, apart := false }
def TopTwoMonitorsSaid : Prop := topTwoMonitorsRow.holds Tryz.pinned (OpenSpec.ofChange topTwoMonitorsSpec)

/-- ITS FALSE NEIGHBOUR: 'it returns false'. Refute it at one input. -/
def topTwoMonitorsWrong : ChangeSpec := { name := "topTwoMonitors", fn := fun _ => fun
  | [d1, d2] => { results := [.lit (.bool false)], args := [d1, d2] }
  | _ => none }
def TopTwoMonitorsWrongFalsely : Prop := topTwoMonitorsRow.holds Tryz.pinned (OpenSpec.ofChange topTwoMonitorsWrong)

/-- 'broadsheettop.TopKeys': WHATEVER THE INPUT: true; the input reads as it did. -/
def topKeysSpec : ChangeSpec := { name := "topKeys", fn := fun _ => fun
  | [d1, d2] => { results := [.lit (.bool true)], args := [d1, d2] }
  | _ => none }
def topKeysRow : OpenClaim := { program := "ytccekbdjebohcaagreat", sum := "8b91a070e891a2ab25e3e6d44205fd72f0bb0aebf1f5aef8cacdeb3354b679c7", func := "broadsheet/broadsheettop.TopKeys", spec := "topKeys", unfollowed := true, recurses := true, plainKeys := false, apart := false }
def TopKeysSaid : Prop := topKeysRow.holds Tryz.pinned (OpenSpec.ofChange topKeysSpec)

/-- ITS FALSE NEIGHBOUR: 'it returns false'. Refute it at one input. -/
def topKeysWrong : ChangeSpec := { name := "topKeys", fn := fun _ => fun
  | [d1, d2] => { results := [.lit (.bool false)], args := [d1, d2] }
  | _ => none }
def TopKeysWrongFalsely : Prop := topKeysRow.holds Tryz.pinned (OpenSpec.ofChange topKeysWrong)

/-- 'broadsheettop.TopOffline': WHATEVER THE INPUT: true; the input reads as it did. -/
def topOfflineSpec : ChangeSpec := { name := "topOffline", fn := fun _ => fun
  | [d1, d2, d3, d4] => { results := [.lit (.bool true)], args := [d1, d2, d3, d4] }
  | _ => none }
def topOfflineRow : OpenClaim := { program := "ytccekbdjebohcaagreat", sum := "8b91a070e891a2ab25e3e6d44205fd72f0bb0aebf1f5aef8cacdeb3354b679c7", func := "broadsheet/broadsheettop.TopOffline", spec := "topOffline", unfollowed := true, recurses := true, plainKeys := false, apart := false }
def TopOfflineSaid : Prop := topOfflineRow.holds Tryz.pinned (OpenSpec.ofChange topOfflineSpec)

/-- ITS FALSE NEIGHBOUR: 'it returns false'. Refute it at one input. -/
def topOfflineWrong : ChangeSpec := { name := "topOffline", fn := fun _ => fun
  | [d1, d2, d3, d4] => { results := [.lit (.bool false)], args := [d1, d2, d3, d4] }
  | _ => none }
def TopOfflineWrongFalsely : Prop := topOfflineRow.holds Tryz.pinned (OpenSpec.ofChange topOfflineWrong)

/-- 'broadsheettop.TopProofs': WHATEVER THE INPUT: true; the input reads as it did. -/
def topProofsSpec : ChangeSpec := { name := "topProofs", fn := fun _ => fun
  | [d1, d2] => { results := [.lit (.bool true)], args := [d1, d2] }
  | _ => none }
def topProofsRow : OpenClaim := { program := "ytccekbdjebohcaagreat", sum := "8b91a070e891a2ab25e3e6d44205fd72f0bb0aebf1f5aef8cacdeb3354b679c7", func := "broadsheet/broadsheettop.TopProofs", spec := "topProofs", unfollowed := true, recurses := true, plainKeys := false, apart := false }
def TopProofsSaid : Prop := topProofsRow.holds Tryz.pinned (OpenSpec.ofChange topProofsSpec)

/-- ITS FALSE NEIGHBOUR: 'it returns false'. Refute it at one input. -/
def topProofsWrong : ChangeSpec := { name := "topProofs", fn := fun _ => fun
  | [d1, d2] => { results := [.lit (.bool false)], args := [d1, d2] }
  | _ => none }
def TopProofsWrongFalsely : Prop := topProofsRow.holds Tryz.pinned (OpenSpec.ofChange topProofsWrong)

/-- 'broadsheettop.TopQuiet': WHATEVER THE INPUT: true; the input reads as it did. -/
def topQuietSpec : ChangeSpec := { name := "topQuiet", fn := fun _ => fun
  | [d1, d2] => { results := [.lit (.bool true)], args := [d1, d2] }
  | _ => none }
def topQuietRow : OpenClaim := { program := "ytccekbdjebohcaagreat", sum := "8b91a070e891a2ab25e3e6d44205fd72f0bb0aebf1f5aef8cacdeb3354b679c7", func := "broadsheet/broadsheettop.TopQuiet", spec := "topQuiet", unfollowed := true, recurses := true, plainKeys := false, apart := false }
def TopQuietSaid : Prop := topQuietRow.holds Tryz.pinned (OpenSpec.ofChange topQuietSpec)

/-- ITS FALSE NEIGHBOUR: 'it returns false'. Refute it at one input. -/
def topQuietWrong : ChangeSpec := { name := "topQuiet", fn := fun _ => fun
  | [d1, d2] => { results := [.lit (.bool false)], args := [d1, d2] }
  | _ => none }
def TopQuietWrongFalsely : Prop := topQuietRow.holds Tryz.pinned (OpenSpec.ofChange topQuietWrong)

/- THE SECOND FORM. 'bulk': how many values and letters a reading holds, each counted each time it is reached (what is shared counts as often as it is met; a slice's spare places count too). A statement '..UptoSaid' is the law's where the arguments, and the package variables that the reading takes, are together of bulk at most 1048576: NARROWER than '..Said'. Prove '..Said' where nothing that the law and all that it calls make is longer than what came in: it says more and counts as full. Else prove '..UptoSaid'. A law counts once. -/
mutual
def uptoBulk {H : Type} : DataW H → Nat
  | .lit (.string bytes) => bytes.length + 1
  | .lit _ => 1
  | .nil => 1
  | .ptr d => uptoBulk d + 1
  | .slice elems spare => uptoBulkAll elems + uptoBulkAll spare + 1
  | .agg parts => uptoBulkAll parts + 1
  | .iface _ d => uptoBulk d + 1
  | .map entries => uptoBulkEntries entries + 1
  | .held _ => 1
def uptoBulkAll {H : Type} : List (DataW H) → Nat
  | [] => 0
  | d :: r => uptoBulk d + uptoBulkAll r
def uptoBulkEntries {H : Type} : List (Lit × DataW H) → Nat
  | [] => 0
  | x :: r => uptoBulkEntry x + uptoBulkEntries r
def uptoBulkEntry {H : Type} : Lit × DataW H → Nat
  | (.string bytes, d) => bytes.length + uptoBulk d + 1
  | (_, d) => uptoBulk d + 1
 end
def uptoSmall : (H : Type) → List (DataW H) → Bool := fun _ ds => decide (uptoBulkAll ds ≤ 1048576)
def OpenSpec.upto (s : _root_.Go.ChangeSpec) : _root_.Go.OpenSpec := { _root_.Go.OpenSpec.ofChange s with cond := some uptoSmall }

/-- 'broadsheettop.TopLedgers', WHERE WHAT IT READS IS OF BULK AT MOST 1048576: true; the input reads as it did. -/
def topLedgersUptoRow : OpenClaim := { program := "ytccekbdjebohcaagreat", sum := "8b91a070e891a2ab25e3e6d44205fd72f0bb0aebf1f5aef8cacdeb3354b679c7", func := "broadsheet/broadsheettop.TopLedgers", spec := "topLedgers", unfollowed := true, recurses := true, plainKeys := false, apart := false, narrowed := true }
def TopLedgersUptoSaid : Prop := topLedgersUptoRow.holds Tryz.pinned (OpenSpec.upto topLedgersSpec)

/-- 'broadsheettop.TopNames', WHERE WHAT IT READS IS OF BULK AT MOST 1048576: true; the input reads as it did. -/
def topNamesUptoRow : OpenClaim := { program := "ytccekbdjebohcaagreat", sum := "8b91a070e891a2ab25e3e6d44205fd72f0bb0aebf1f5aef8cacdeb3354b679c7", func := "broadsheet/broadsheettop.TopNames", spec := "topNames", unfollowed := true, recurses := true, plainKeys := false, apart := false, narrowed := true }
def TopNamesUptoSaid : Prop := topNamesUptoRow.holds Tryz.pinned (OpenSpec.upto topNamesSpec)

/-- 'broadsheettop.TopMessages', WHERE WHAT IT READS IS OF BULK AT MOST 1048576: true; the input reads as it did. -/
def topMessagesUptoRow : OpenClaim := { program := "ytccekbdjebohcaagreat", sum := "8b91a070e891a2ab25e3e6d44205fd72f0bb0aebf1f5aef8cacdeb3354b679c7", func := "broadsheet/broadsheettop.TopMessages", spec := "topMessages", unfollowed := true, recurses := true, plainKeys := false, apart := false, narrowed := true }
def TopMessagesUptoSaid : Prop := topMessagesUptoRow.holds Tryz.pinned (OpenSpec.upto topMessagesSpec)

/-- 'broadsheettop.TopTwoMonitors', WHERE WHAT IT READS IS OF BULK AT MOST 1048576: true; the input reads as it did. -/
def topTwoMonitorsUptoRow : OpenClaim := { program := "ytccekbdjebohcaagreat", sum := "8b91a070e891a2ab25e3e6d44205fd72f0bb0aebf1f5aef8cacdeb3354b679c7", func := "broadsheet/broadsheettop.TopTwoMonitors", spec := "topTwoMonitors", unfollowed := true, recurses := true, plainKeys := false, apart := false, narrowed := true }
def TopTwoMonitorsUptoSaid : Prop := topTwoMonitorsUptoRow.holds Tryz.pinned (OpenSpec.upto topTwoMonitorsSpec)

/-- 'broadsheettop.TopKeys', WHERE WHAT IT READS IS OF BULK AT MOST 1048576: true; the input reads as it did. -/
def topKeysUptoRow : OpenClaim := { program := "ytccekbdjebohcaagreat", sum := "8b91a070e891a2ab25e3e6d44205fd72f0bb0aebf1f5aef8cacdeb3354b679c7", func := "broadsheet/broadsheettop.TopKeys", spec := "topKeys", unfollowed := true, recurses := true, plainKeys := false, apart := false, narrowed := true }
def TopKeysUptoSaid : Prop := topKeysUptoRow.holds Tryz.pinned (OpenSpec.upto topKeysSpec)

/-- 'broadsheettop.TopOffline', WHERE WHAT IT READS IS OF BULK AT MOST 1048576: true; the input reads as it did. -/
def topOfflineUptoRow : OpenClaim := { program := "ytccekbdjebohcaagreat", sum := "8b91a070e891a2ab25e3e6d44205fd72f0bb0aebf1f5aef8cacdeb3354b679c7", func := "broadsheet/broadsheettop.TopOffline", spec := "topOffline", unfollowed := true, recurses := true, plainKeys := false, apart := false, narrowed := true }
def TopOfflineUptoSaid : Prop := topOfflineUptoRow.holds Tryz.pinned (OpenSpec.upto topOfflineSpec)

/-- 'broadsheettop.TopProofs', WHERE WHAT IT READS IS OF BULK AT MOST 1048576: true; the input reads as it did. -/
def topProofsUptoRow : OpenClaim := { program := "ytccekbdjebohcaagreat", sum := "8b91a070e891a2ab25e3e6d44205fd72f0bb0aebf1f5aef8cacdeb3354b679c7", func := "broadsheet/broadsheettop.TopProofs", spec := "topProofs", unfollowed := true, recurses := true, plainKeys := false, apart := false, narrowed := true }
def TopProofsUptoSaid : Prop := topProofsUptoRow.holds Tryz.pinned (OpenSpec.upto topProofsSpec)

/-- 'broadsheettop.TopQuiet', WHERE WHAT IT READS IS OF BULK AT MOST 1048576: true; the input reads as it did. -/
def topQuietUptoRow : OpenClaim := { program := "ytccekbdjebohcaagreat", sum := "8b91a070e891a2ab25e3e6d44205fd72f0bb0aebf1f5aef8cacdeb3354b679c7", func := "broadsheet/broadsheettop.TopQuiet", spec := "topQuiet", unfollowed := true, recurses := true, plainKeys := false, apart := false, narrowed := true }
def TopQuietUptoSaid : Prop := topQuietUptoRow.holds Tryz.pinned (OpenSpec.upto topQuietSpec)

end Rows
end Go.Proofs.YtccekbdjebohcaaGreat
