/- Arguments that are bytes, and lists of texts. -/
import Derived.Test.YtamjkmnhgajlcaaArg
import Derived.Test.YtamjkmnhgajlcaaFew
namespace Go.Proofs
open Go.Bs
theorem argv_bytes {W : World} {v : Value} (h : ArgV Try.prog W 22 v) : ∃ l : List UInt8, RdB [Base W] v l ∧ l.length ≤ 140737488351232 := by
  obtain ⟨v', l, e0, h1, h2⟩ := arg_bytes Try.underlying22 Try.underlying5 (by kernel_rfl) (by kernel_rfl) (argv_slice Try.underlying22 h)
  cases e0
  exact ⟨l, h1, h2⟩
theorem argv_txts {W : World} {v : Value} (h : ArgV Try.prog W 24 v) :
    ∃ l : List Txt, RdSl [Base W] 1 v l.length (l.map (·.1)) ∧ Txts [Base W] l ∧ l.length ≤ 140737488351232 ∧ ∀ a ∈ l, a.2.length ≤ 140737488351232 := by
  obtain ⟨v', l, e0, h1, h2, h3⟩ := arg_texts Try.underlying24 (by kernel_rfl) Try.underlying22 Try.underlying5 (by kernel_rfl) (by kernel_rfl) (argv_slice Try.underlying24 h)
  cases e0
  have hb : Try.prog.bytesOf 22 = 24 := by kernel_rfl
  rw [hb] at h2
  have hr : reachBytes = 140737488351232 := rfl
  exact ⟨l, h1, fun a ha => (h3 a ha).1, by omega, fun a ha => (h3 a ha).2⟩
end Go.Proofs
