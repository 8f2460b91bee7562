/- What law 23's arguments read as: lists of calls. -/
import Derived.Test.YtjgmkmpfalfanaaArg
import Derived.Test.YtjgmkmpfalfanaaLaw23Play
namespace Go.Proofs
open Go.Bs
theorem argv_asks23 {W : World} {v : Value} (h : ArgV Try.prog W 38 v) :
    ∃ l : List Ask23, RdSl [Base W] 6 v l.length (l.flatMap Ask23.cells) ∧ Asks23 [Base W] l := by
  obtain ⟨v', css, h0, h1, h2, h3⟩ := arg_slice (n := 6) Try.underlying38 (by kernel_rfl) (by omega) (argv_slice Try.underlying38 h)
  cases h0
  obtain ⟨l, rfl, h4⟩ := lift_list (α := Ask23) (f := Ask23.cells) (ok := fun a => a.ok ∧ RdB [Base W] a.m.v a.m.b) (css := css) fun c hc => by
    obtain ⟨h5, h6⟩ := h3 c hc
    match c, h5 with
    | [c0, c1, c2, c3, c4, c5], _ =>
      obtain ⟨k, e0, w0⟩ := arg_int Try.underlying3 (arg_field (i := 0) Try.underlying40 h6 rfl (by kernel_rfl) rfl)
      obtain ⟨m, e1, w1⟩ := arg_int Try.underlying3 (arg_field (i := 1) Try.underlying40 h6 rfl (by kernel_rfl) rfl)
      have h7 := (arg_struct Try.underlying40 h6).2 2 _ rfl
      have h8 : Arg Try.prog W 31 [c2, c3, c4, c5] := h7
      obtain ⟨x2, e2, w2⟩ := arg_int Try.underlying3 (arg_field (i := 0) Try.underlying31 h8 rfl (by kernel_rfl) rfl)
      obtain ⟨x3, e3, w3⟩ := arg_int Try.underlying3 (arg_field (i := 1) Try.underlying31 h8 rfl (by kernel_rfl) rfl)
      obtain ⟨x4, e4, w4⟩ := arg_int Try.underlying3 (arg_field (i := 2) Try.underlying31 h8 rfl (by kernel_rfl) rfl)
      obtain ⟨u, b, e5, w5, w6⟩ := arg_bytes Try.underlying29 Try.underlying5 (by kernel_rfl) (by kernel_rfl) (arg_field (i := 3) Try.underlying31 h8 rfl (by kernel_rfl) rfl)
      cases e0; cases e1; cases e2; cases e3; cases e4; cases e5
      exact ⟨⟨k, m, ⟨x2, x3, x4, c5, b⟩⟩, rfl, ⟨i64_bounds w1, by show b.length ≤ 140737488351232; simpa [reachBytes] using w6⟩, w5⟩
  rw [List.length_map] at h1
  rw [← List.flatMap_def] at h1
  exact ⟨l, h1, h4⟩
end Go.Proofs
