/- A call that law 13's arguments ask for, and its cells. -/
import Derived.Test.YtamjkmnhgajlcaaBytes
namespace Go.Proofs
open Go.Bs
structure Ask13 where
  kind : Int
  b : List UInt8
  v : Value
def Ask13.cells (a : Ask13) : List Value := [.int .i64 a.kind, a.v]
def Ask13.ok (a : Ask13) : Prop := (-9223372036854775808 ≤ a.kind ∧ a.kind ≤ 9223372036854775807) ∧ a.b.length ≤ 140737488351232
def Asks13 (L : List Res) (l : List Ask13) : Prop := ∀ a ∈ l, a.ok ∧ RdB L a.v a.b
end Go.Proofs
