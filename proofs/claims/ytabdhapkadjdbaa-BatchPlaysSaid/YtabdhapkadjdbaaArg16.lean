/- What law 16's arguments read as: lists of calls. -/
import Derived.Test.YtabdhapkadjdbaaArg
import Derived.Test.YtabdhapkadjdbaaLaw16Play
namespace Go.Proofs
open Go.Bs
theorem argv_asks16 {W : World} {v : Value} (h : ArgV Try.prog W 39 v) :
    ∃ l : List Ask16, RdSl [Base W] 3 v l.length (l.flatMap Ask16.cells) ∧ Asks16 [Base W] l := by
  obtain ⟨v', css, h0, h1, h2, h3⟩ := arg_slice (n := 3) Try.underlying39 (by kernel_rfl) (by omega) (argv_slice Try.underlying39 h)
  cases h0
  obtain ⟨l, rfl, h4⟩ := lift_list (α := Ask16) (f := Ask16.cells) (ok := fun a => a.ok ∧ RdB [Base W] a.v a.b) (css := css) fun c hc => by
    obtain ⟨h5, h6⟩ := h3 c hc
    match c, h5 with
    | [c0, c1, c2], _ =>
      obtain ⟨k, e0, w0⟩ := arg_int Try.underlying3 (arg_field (i := 0) Try.underlying41 h6 rfl (by kernel_rfl) rfl)
      obtain ⟨m, e1, w1⟩ := arg_int Try.underlying3 (arg_field (i := 1) Try.underlying41 h6 rfl (by kernel_rfl) rfl)
      obtain ⟨u, b, e3, w3, w4⟩ := arg_bytes Try.underlying30 Try.underlying5 (by kernel_rfl) (by kernel_rfl) (arg_field (i := 2) Try.underlying41 h6 rfl (by kernel_rfl) rfl)
      cases e0; cases e1; cases e3
      exact ⟨⟨k, m, b, c2⟩, rfl, ⟨i64_bounds w1, by show b.length ≤ 140737488351232; simpa [reachBytes] using w4⟩, w3⟩
  rw [List.length_map] at h1
  rw [← List.flatMap_def] at h1
  exact ⟨l, h1, h4⟩
end Go.Proofs
