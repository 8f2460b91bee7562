/-
  No cell of these rows narrows 'for every input' (looked for: loops, veiled, ifaces, maps, wideKeys, modest, calm, conditions, laid).
  DERIVED. THE GIVEN ROWS OF THIS SEAT. 5 by the template 'for every input the law returns true; each argument reads behind the call as it read before'; 0 by the template 'total and deterministic' (their statements: YtabdhapkadjdbaaTotals.lean).
  GIVEN WITH THE SEED: the statements are not yours to turn. If you find one false, say at which input.
  Laid BY PROGRAM, IN A SANDBOX (cutbox-rows.mjs): the forced cells as the released guide's own fill.sh prints them over the translation 7d07fd2d524a46ac… (all of the seat's roots in one cut). By AI agents, Wed Nov 11 2026. No macro, syntax, notation, axiom, sorry.
-/
import Derived.Test.YtabdhapkadjdbaaChecked
import GoSem.Claim
import GoSem.ClaimJoined
import GoSem.ClaimMapViews
import Derived.JoinedTies
import Derived.KernelRfl
namespace Go.Proofs.Ytabdhapkadjdbaa
/- THE CELL 'sum', in the pinned program and in every row, IS THE sha256 OF THE DUMP (.gsa) THAT YtabdhapkadjdbaaProg.lean LOADS. Nothing in Lean hashes anything: it is a label: what it is worth is what the hold of that sum in a sandbox is worth. -/
noncomputable def Try.pinned : Pinned := { name := "ytabdhapkadjdbaa", sum := "7d07fd2d524a46ac7d68e68730f45c24fd38d00e74b71e43041e99935670be9c", checked := Try.checked }
namespace Rows
def none {H : Type} : Left H := { results := [], args := [] }

/-- 'broadsheetlaw16.BatchTimes': WHATEVER THE INPUT: true; the input reads as it did. -/
def batchTimesSpec : ChangeSpec := { name := "batchTimes", fn := fun _ => fun
  | [d1, d2] => { results := [.lit (.bool true)], args := [d1, d2] }
  | _ => none }
def batchTimesRow : OpenClaim := { program := "ytabdhapkadjdbaa", sum := "7d07fd2d524a46ac7d68e68730f45c24fd38d00e74b71e43041e99935670be9c", func := "broadsheet/broadsheetlaw16.BatchTimes", spec := "batchTimes", unfollowed := true, recurses := true, apart := false }
def BatchTimesSaid : Prop := batchTimesRow.holds Try.pinned (OpenSpec.ofChange batchTimesSpec)

/-- ITS FALSE NEIGHBOUR: 'it returns false'. Refute it at one input. -/
def batchTimesWrong : ChangeSpec := { name := "batchTimes", fn := fun _ => fun
  | [d1, d2] => { results := [.lit (.bool false)], args := [d1, d2] }
  | _ => none }
def BatchTimesWrongFalsely : Prop := batchTimesRow.holds Try.pinned (OpenSpec.ofChange batchTimesWrong)

/-- 'broadsheetlaw16.BatchRooms': WHATEVER THE INPUT: true; the input reads as it did. -/
def batchRoomsSpec : ChangeSpec := { name := "batchRooms", fn := fun _ => fun
  | [d1, d2, d3] => { results := [.lit (.bool true)], args := [d1, d2, d3] }
  | _ => none }
def batchRoomsRow : OpenClaim := { program := "ytabdhapkadjdbaa", sum := "7d07fd2d524a46ac7d68e68730f45c24fd38d00e74b71e43041e99935670be9c", func := "broadsheet/broadsheetlaw16.BatchRooms", spec := "batchRooms", unfollowed := true, recurses := true, apart := false }
def BatchRoomsSaid : Prop := batchRoomsRow.holds Try.pinned (OpenSpec.ofChange batchRoomsSpec)

/-- ITS FALSE NEIGHBOUR: 'it returns false'. Refute it at one input. -/
def batchRoomsWrong : ChangeSpec := { name := "batchRooms", fn := fun _ => fun
  | [d1, d2, d3] => { results := [.lit (.bool false)], args := [d1, d2, d3] }
  | _ => none }
def BatchRoomsWrongFalsely : Prop := batchRoomsRow.holds Try.pinned (OpenSpec.ofChange batchRoomsWrong)

/-- 'broadsheetlaw16.BatchOrders': WHATEVER THE INPUT: true; the input reads as it did. -/
def batchOrdersSpec : ChangeSpec := { name := "batchOrders", fn := fun _ => fun
  | [d1, d2, d3] => { results := [.lit (.bool true)], args := [d1, d2, d3] }
  | _ => none }
def batchOrdersRow : OpenClaim := { program := "ytabdhapkadjdbaa", sum := "7d07fd2d524a46ac7d68e68730f45c24fd38d00e74b71e43041e99935670be9c", func := "broadsheet/broadsheetlaw16.BatchOrders", spec := "batchOrders", unfollowed := true, recurses := true, apart := false }
def BatchOrdersSaid : Prop := batchOrdersRow.holds Try.pinned (OpenSpec.ofChange batchOrdersSpec)

/-- ITS FALSE NEIGHBOUR: 'it returns false'. Refute it at one input. -/
def batchOrdersWrong : ChangeSpec := { name := "batchOrders", fn := fun _ => fun
  | [d1, d2, d3] => { results := [.lit (.bool false)], args := [d1, d2, d3] }
  | _ => none }
def BatchOrdersWrongFalsely : Prop := batchOrdersRow.holds Try.pinned (OpenSpec.ofChange batchOrdersWrong)

/-- 'broadsheetlaw16.BatchNumbers': WHATEVER THE INPUT: true; the input reads as it did. -/
def batchNumbersSpec : ChangeSpec := { name := "batchNumbers", fn := fun _ => fun
  | [] => { results := [.lit (.bool true)], args := [] }
  | _ => none }
def batchNumbersRow : OpenClaim := { program := "ytabdhapkadjdbaa", sum := "7d07fd2d524a46ac7d68e68730f45c24fd38d00e74b71e43041e99935670be9c", func := "broadsheet/broadsheetlaw16.BatchNumbers", spec := "batchNumbers", unfollowed := true, recurses := true, apart := false }
def BatchNumbersSaid : Prop := batchNumbersRow.holds Try.pinned (OpenSpec.ofChange batchNumbersSpec)

/-- ITS FALSE NEIGHBOUR: 'it returns false'. Refute it at one input. -/
def batchNumbersWrong : ChangeSpec := { name := "batchNumbers", fn := fun _ => fun
  | [] => { results := [.lit (.bool false)], args := [] }
  | _ => none }
def BatchNumbersWrongFalsely : Prop := batchNumbersRow.holds Try.pinned (OpenSpec.ofChange batchNumbersWrong)

/-- 'broadsheetlaw16.BatchPlays': WHATEVER THE INPUT: true; the input reads as it did. -/
def batchPlaysSpec : ChangeSpec := { name := "batchPlays", fn := fun _ => fun
  | [d1, d2, d3, d4] => { results := [.lit (.bool true)], args := [d1, d2, d3, d4] }
  | _ => none }
def batchPlaysRow : OpenClaim := { program := "ytabdhapkadjdbaa", sum := "7d07fd2d524a46ac7d68e68730f45c24fd38d00e74b71e43041e99935670be9c", func := "broadsheet/broadsheetlaw16.BatchPlays", spec := "batchPlays", unfollowed := true, recurses := true, apart := false }
def BatchPlaysSaid : Prop := batchPlaysRow.holds Try.pinned (OpenSpec.ofChange batchPlaysSpec)

/-- ITS FALSE NEIGHBOUR: 'it returns false'. Refute it at one input. -/
def batchPlaysWrong : ChangeSpec := { name := "batchPlays", fn := fun _ => fun
  | [d1, d2, d3, d4] => { results := [.lit (.bool false)], args := [d1, d2, d3, d4] }
  | _ => none }
def BatchPlaysWrongFalsely : Prop := batchPlaysRow.holds Try.pinned (OpenSpec.ofChange batchPlaysWrong)

/- THE SECOND FORM. 'bulk': how many values and letters a reading holds, each counted each time it is reached (what is shared counts as often as it is met; a slice's spare places count too). A statement '..UptoSaid' is the law's where the arguments, and the package variables that the reading takes, are together of bulk at most 1048576: NARROWER than '..Said'. Prove '..Said' where nothing that the law and all that it calls make is longer than what came in: it says more and counts as full. Else prove '..UptoSaid'. A law counts once. -/
mutual
def uptoBulk {H : Type} : DataW H → Nat
  | .lit (.string bytes) => bytes.length + 1
  | .lit _ => 1
  | .nil => 1
  | .ptr d => uptoBulk d + 1
  | .slice elems spare => uptoBulkAll elems + uptoBulkAll spare + 1
  | .agg parts => uptoBulkAll parts + 1
  | .iface _ d => uptoBulk d + 1
  | .map entries => uptoBulkEntries entries + 1
  | .held _ => 1
def uptoBulkAll {H : Type} : List (DataW H) → Nat
  | [] => 0
  | d :: r => uptoBulk d + uptoBulkAll r
def uptoBulkEntries {H : Type} : List (Lit × DataW H) → Nat
  | [] => 0
  | x :: r => uptoBulkEntry x + uptoBulkEntries r
def uptoBulkEntry {H : Type} : Lit × DataW H → Nat
  | (.string bytes, d) => bytes.length + uptoBulk d + 1
  | (_, d) => uptoBulk d + 1
 end
def uptoSmall : (H : Type) → List (DataW H) → Bool := fun _ ds => decide (uptoBulkAll ds ≤ 1048576)
def OpenSpec.upto (s : _root_.Go.ChangeSpec) : _root_.Go.OpenSpec := { _root_.Go.OpenSpec.ofChange s with cond := some uptoSmall }

/-- 'broadsheetlaw16.BatchTimes', WHERE WHAT IT READS IS OF BULK AT MOST 1048576: true; the input reads as it did. -/
def batchTimesUptoRow : OpenClaim := { program := "ytabdhapkadjdbaa", sum := "7d07fd2d524a46ac7d68e68730f45c24fd38d00e74b71e43041e99935670be9c", func := "broadsheet/broadsheetlaw16.BatchTimes", spec := "batchTimes", unfollowed := true, recurses := true, apart := false, narrowed := true }
def BatchTimesUptoSaid : Prop := batchTimesUptoRow.holds Try.pinned (OpenSpec.upto batchTimesSpec)

/-- 'broadsheetlaw16.BatchRooms', WHERE WHAT IT READS IS OF BULK AT MOST 1048576: true; the input reads as it did. -/
def batchRoomsUptoRow : OpenClaim := { program := "ytabdhapkadjdbaa", sum := "7d07fd2d524a46ac7d68e68730f45c24fd38d00e74b71e43041e99935670be9c", func := "broadsheet/broadsheetlaw16.BatchRooms", spec := "batchRooms", unfollowed := true, recurses := true, apart := false, narrowed := true }
def BatchRoomsUptoSaid : Prop := batchRoomsUptoRow.holds Try.pinned (OpenSpec.upto batchRoomsSpec)

/-- 'broadsheetlaw16.BatchOrders', WHERE WHAT IT READS IS OF BULK AT MOST 1048576: true; the input reads as it did. -/
def batchOrdersUptoRow : OpenClaim := { program := "ytabdhapkadjdbaa", sum := "7d07fd2d524a46ac7d68e68730f45c24fd38d00e74b71e43041e99935670be9c", func := "broadsheet/broadsheetlaw16.BatchOrders", spec := "batchOrders", unfollowed := true, recurses := true, apart := false, narrowed := true }
def BatchOrdersUptoSaid : Prop := batchOrdersUptoRow.holds Try.pinned (OpenSpec.upto batchOrdersSpec)

/-- 'broadsheetlaw16.BatchNumbers', WHERE WHAT IT READS IS OF BULK AT MOST 1048576: true; the input reads as it did. -/
def batchNumbersUptoRow : OpenClaim := { program := "ytabdhapkadjdbaa", sum := "7d07fd2d524a46ac7d68e68730f45c24fd38d00e74b71e43041e99935670be9c", func := "broadsheet/broadsheetlaw16.BatchNumbers", spec := "batchNumbers", unfollowed := true, recurses := true, apart := false, narrowed := true }
def BatchNumbersUptoSaid : Prop := batchNumbersUptoRow.holds Try.pinned (OpenSpec.upto batchNumbersSpec)

/-- 'broadsheetlaw16.BatchPlays', WHERE WHAT IT READS IS OF BULK AT MOST 1048576: true; the input reads as it did. -/
def batchPlaysUptoRow : OpenClaim := { program := "ytabdhapkadjdbaa", sum := "7d07fd2d524a46ac7d68e68730f45c24fd38d00e74b71e43041e99935670be9c", func := "broadsheet/broadsheetlaw16.BatchPlays", spec := "batchPlays", unfollowed := true, recurses := true, apart := false, narrowed := true }
def BatchPlaysUptoSaid : Prop := batchPlaysUptoRow.holds Try.pinned (OpenSpec.upto batchPlaysSpec)

end Rows
end Go.Proofs.Ytabdhapkadjdbaa
