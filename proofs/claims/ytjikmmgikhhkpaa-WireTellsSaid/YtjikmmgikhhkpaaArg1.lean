/- What law 1's arguments read as: lists of calls. -/
import Derived.Test.YtjikmmgikhhkpaaArg
import Derived.Test.YtjikmmgikhhkpaaLaw1Asks
namespace Go.Proofs
set_option linter.unusedVariables false
set_option linter.unusedSimpArgs false
open Go.Bs
theorem arg_asks1 {W : World} {v : Value} (h : Arg Try.prog W 33 [v]) :
    ∃ l : List Ask1, RdSl [Base W] 4 v l.length (l.flatMap Ask1.cells) ∧ l.length ≤ 140737488351232 ∧ ∀ a ∈ l, a.ok ∧ RdB [Base W] a.v a.b := by
  obtain ⟨v', css, h0, h1, h2, h3⟩ := arg_slice (n := 4) Try.underlying33 (by kernel_rfl) (by omega) h
  cases h0
  obtain ⟨l, rfl, h4⟩ := lift_list (α := Ask1) (f := Ask1.cells) (ok := fun a => a.ok ∧ RdB [Base W] a.v a.b) (css := css) fun c hc => by
    obtain ⟨h5, h6⟩ := h3 c hc
    match c, h5 with
    | [c0, c1, c2, c3], _ =>
      obtain ⟨k, e0, w0⟩ := arg_int Try.underlying3 (arg_field (i := 0) Try.underlying40 h6 rfl (by kernel_rfl) rfl)
      obtain ⟨m, e1, w1⟩ := arg_int Try.underlying3 (arg_field (i := 1) Try.underlying40 h6 rfl (by kernel_rfl) rfl)
      obtain ⟨n, e2, w2⟩ := arg_int Try.underlying22 (arg_field (i := 2) Try.underlying40 h6 rfl (by kernel_rfl) rfl)
      obtain ⟨u, b, e3, w3, w4⟩ := arg_bytes Try.underlying26 Try.underlying5 (by kernel_rfl) (by kernel_rfl) (arg_field (i := 3) Try.underlying40 h6 rfl (by kernel_rfl) rfl)
      cases e0; cases e1; cases e2; cases e3
      have b0 := i64_bounds w0
      have b1 := i64_bounds w1
      have b2 := u32_bounds w2
      obtain ⟨n, rfl⟩ := Int.eq_ofNat_of_zero_le b2.1
      exact ⟨⟨k, m, n, b, c3⟩, rfl, ⟨b0, b1, by show n < 4294967296; omega, by show b.length ≤ 140737488351232; simpa [reachBytes] using w4⟩, w3⟩
  have hb : Try.prog.bytesOf 40 = 48 := by kernel_rfl
  rw [hb] at h2
  rw [List.length_map] at h1 h2
  rw [← List.flatMap_def] at h1
  have hr : reachBytes = 140737488351232 := rfl
  exact ⟨l, h1, by omega, h4⟩
end Go.Proofs
