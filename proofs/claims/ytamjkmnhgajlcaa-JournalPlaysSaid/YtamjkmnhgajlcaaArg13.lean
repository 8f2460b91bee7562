/- What law 13's arguments read as: lists of calls. -/
import Derived.Test.YtamjkmnhgajlcaaArg
import Derived.Test.YtamjkmnhgajlcaaAsks13
namespace Go.Proofs
open Go.Bs
theorem argv_asks13 {W : World} {v : Value} (h : ArgV Try.prog W 48 v) :
    ∃ l : List Ask13, RdSl [Base W] 2 v l.length (l.flatMap Ask13.cells) ∧ Asks13 [Base W] l := by
  obtain ⟨v', css, h0, h1, h2, h3⟩ := arg_slice (n := 2) Try.underlying48 (by kernel_rfl) (by omega) (argv_slice Try.underlying48 h)
  cases h0
  obtain ⟨l, rfl, h4⟩ := lift_list (α := Ask13) (f := Ask13.cells) (ok := fun a => a.ok ∧ RdB [Base W] a.v a.b) (css := css) fun c hc => by
    obtain ⟨h5, h6⟩ := h3 c hc
    match c, h5 with
    | [c0, c1], _ =>
      obtain ⟨k, e0, w0⟩ := arg_int Try.underlying3 (arg_field (i := 0) Try.underlying52 h6 rfl (by kernel_rfl) rfl)
      obtain ⟨u, b, e3, w3, w4⟩ := arg_bytes Try.underlying22 Try.underlying5 (by kernel_rfl) (by kernel_rfl) (arg_field (i := 1) Try.underlying52 h6 rfl (by kernel_rfl) rfl)
      cases e0; cases e3
      exact ⟨⟨k, b, c1⟩, rfl, ⟨i64_bounds w0, by show b.length ≤ 140737488351232; simpa [reachBytes] using w4⟩, w3⟩
  rw [List.length_map] at h1
  rw [← List.flatMap_def] at h1
  exact ⟨l, h1, h4⟩
end Go.Proofs
