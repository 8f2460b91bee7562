/- A call that law 12's arguments ask for, and its cells. -/
import Derived.Test.YtkpidjlafoeagaaBytes
namespace Go.Proofs
open Go.Bs
structure Ask12 where
  kind : Int
  n : Int
  b : List UInt8
  v : Value
def Ask12.cells (a : Ask12) : List Value := [.int .i64 a.kind, .int .i64 a.n, a.v]
def Ask12.ok (a : Ask12) : Prop := (-9223372036854775808 ≤ a.kind ∧ a.kind ≤ 9223372036854775807) ∧ (-9223372036854775808 ≤ a.n ∧ a.n ≤ 9223372036854775807) ∧ a.b.length ≤ 140737488351232
def Asks12 (L : List Res) (l : List Ask12) : Prop := ∀ a ∈ l, a.ok ∧ RdB L a.v a.b
end Go.Proofs
