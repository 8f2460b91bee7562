/- A call that law 1's arguments ask for, and its cells. -/
import Derived.Test.YtjikmmgikhhkpaaFacts
import Derived.Test.YtjikmmgikhhkpaaBe
namespace Go.Proofs
set_option linter.unusedVariables false
set_option linter.unusedSimpArgs false
open Go.Bs
structure Ask1 where
  kind : Int
  most : Int
  n : Nat
  b : List UInt8
  v : Value
def Ask1.cells (a : Ask1) : List Value := [.int .i64 a.kind, .int .i64 a.most, .int .u32 a.n, a.v]
def Ask1.ok (a : Ask1) : Prop := (-9223372036854775808 ≤ a.kind ∧ a.kind ≤ 9223372036854775807) ∧ (-9223372036854775808 ≤ a.most ∧ a.most ≤ 9223372036854775807) ∧ a.n < 4294967296 ∧ a.b.length ≤ 140737488351232
end Go.Proofs
