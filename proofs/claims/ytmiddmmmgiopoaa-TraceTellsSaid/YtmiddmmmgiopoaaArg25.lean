/- What law 25's arguments read as: lists of events. -/
import Derived.Test.YtmiddmmmgiopoaaArg
import Derived.Test.YtmiddmmmgiopoaaTrace
namespace Go.Proofs
open Go.Bs
theorem arg_event {W : World} {c : List Value} (h6 : Arg Try.prog W 37 c) (hc : c.length = 4) : ∃ a : Ev, c = a.cells ∧ RdB [Base W] a.v a.t ∧ (-9223372036854775808 ≤ a.a ∧ a.a ≤ 9223372036854775807) ∧ a.t.length ≤ 140737488351232 := by
  match c, hc with
  | [c0, c1, c2, c3], _ =>
    obtain ⟨k, e0, w0⟩ := arg_int Try.underlying3 (arg_field (i := 0) Try.underlying37 h6 rfl (by kernel_rfl) rfl)
    obtain ⟨m, e1, w1⟩ := arg_int Try.underlying3 (arg_field (i := 1) Try.underlying37 h6 rfl (by kernel_rfl) rfl)
    obtain ⟨n, e2, w2⟩ := arg_int Try.underlying3 (arg_field (i := 2) Try.underlying37 h6 rfl (by kernel_rfl) rfl)
    obtain ⟨u, b, e5, w5, w6⟩ := arg_bytes Try.underlying35 Try.underlying5 (by kernel_rfl) (by kernel_rfl) (arg_field (i := 3) Try.underlying37 h6 rfl (by kernel_rfl) rfl)
    cases e0; cases e1; cases e2; cases e5
    exact ⟨⟨k, m, n, c3, b⟩, rfl, w5, i64_bounds w1, by show b.length ≤ 140737488351232; simpa [reachBytes] using w6⟩
theorem argv_event {W : World} {v : Value} (h : ArgV Try.prog W 37 v) : ∃ a : Ev, v = .agg a.cells.toArray ∧ RdB [Base W] a.v a.t ∧ (-9223372036854775808 ≤ a.a ∧ a.a ≤ 9223372036854775807) ∧ a.t.length ≤ 140737488351232 := by
  obtain ⟨⟨b, h1⟩, h2⟩ := h
  obtain ⟨cs, rfl, hsz⟩ := Go.WideShapes.okWide_struct Try.underlying37 h1
  have hn : Try.prog.cellsOf 37 = 4 := by kernel_rfl
  obtain ⟨a, ha, hb⟩ := arg_event (c := cs.toList) (by simpa [Value.cells] using h2) (by rw [Array.length_toList, hsz, hn])
  exact ⟨a, by rw [← ha], hb⟩
theorem argv_events {W : World} {v : Value} (h : ArgV Try.prog W 22 v) :
    ∃ l : List Ev, RdSl [Base W] 4 v l.length (l.flatMap Ev.cells) ∧ ∀ x ∈ l, RdB [Base W] x.v x.t := by
  obtain ⟨v', css, h0, h1, h2, h3⟩ := arg_slice (n := 4) Try.underlying22 (by kernel_rfl) (by omega) (argv_slice Try.underlying22 h)
  cases h0
  obtain ⟨l, rfl, h4⟩ := lift_list (α := Ev) (f := Ev.cells) (ok := fun a => RdB [Base W] a.v a.t) (css := css) fun c hc => by
    obtain ⟨h5, h6⟩ := h3 c hc
    obtain ⟨a, ha, hb, _⟩ := arg_event h6 h5
    exact ⟨a, ha, hb⟩
  rw [List.length_map] at h1
  rw [← List.flatMap_def] at h1
  exact ⟨l, h1, h4⟩
end Go.Proofs
