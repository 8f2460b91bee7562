/- Arguments that are bytes, and lists of texts. -/
import Derived.Test.YtnifiamfdkdkkaaArg
import Derived.Test.YtnifiamfdkdkkaaItems
namespace Go.Proofs
open Go.Bs
theorem argv_bytes {W : World} {v : Value} (h : ArgV Try.prog W 24 v) : ∃ l : List UInt8, RdB [Base W] v l ∧ l.length ≤ 140737488351232 := by
  obtain ⟨v', l, e0, h1, h2⟩ := arg_bytes Try.underlying24 Try.underlying5 (by kernel_rfl) (by kernel_rfl) (argv_slice Try.underlying24 h)
  cases e0
  exact ⟨l, h1, h2⟩
theorem argv_txts {W : World} {v : Value} (h : ArgV Try.prog W 34 v) :
    ∃ l : List Txt, RdSl [Base W] 1 v l.length (l.map (·.1)) ∧ Txts [Base W] l ∧ l.length ≤ 140737488351232 ∧ ∀ a ∈ l, a.2.length ≤ 140737488351232 := by
  obtain ⟨v', l, e0, h1, h2, h3⟩ := arg_texts Try.underlying34 (by kernel_rfl) Try.underlying24 Try.underlying5 (by kernel_rfl) (by kernel_rfl) (argv_slice Try.underlying34 h)
  cases e0
  have hb : Try.prog.bytesOf 24 = 24 := by kernel_rfl
  rw [hb] at h2
  have hr : reachBytes = 140737488351232 := rfl
  exact ⟨l, h1, fun a ha => (h3 a ha).1, by omega, fun a ha => (h3 a ha).2⟩
theorem argv_nums {W : World} {v : Value} (h : ArgV Try.prog W 45 v) : ∃ l : List Int, RdSl [Base W] 1 v l.length (l.map fun x => .int .i64 x) ∧ ∀ x ∈ l, -9223372036854775808 ≤ x ∧ x ≤ 9223372036854775807 := by
  obtain ⟨v', l, e0, h1, h2⟩ := arg_ints Try.underlying45 Try.underlying3 (by kernel_rfl) (argv_slice Try.underlying45 h)
  cases e0
  exact ⟨l, h1, fun x hx => i64_bounds (h2.2 x hx)⟩
end Go.Proofs
