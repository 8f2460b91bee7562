/- TraceBegins returns true for any events and any two numbers; nothing of the old memory is turned. No condition. -/
import Derived.Test.YtmiddmmmgiopoaaArg25
import Derived.Test.YtmiddmmmgiopoaaLaw25Begins
namespace Go.Proofs.Ytmiddmmmgiopoaa.traceBegins
open Go.ChangeShapes Go.WideShapes Go.ChangeAt Go.RowKit Go.Bs
set_option linter.unusedVariables false
theorem walk (W : World) (vs : List Value) (h : Args Try.prog W [22, 3, 3] vs) :
    Calls Try.prog 3 vs.toArray W fun e w' => e = .returned (.bool true) ∧ Below W.heap.size W w' := by
  match vs, h with
  | [v0, v1, v2], ⟨h0, h1, h2, _⟩ =>
    obtain ⟨l, r1, r2⟩ := argv_events h0
    obtain ⟨n, rfl, w1⟩ := argv_int Try.underlying3 h1
    obtain ⟨m, rfl, w2⟩ := argv_int Try.underlying3 h2
    exact Ct.calls ((traceBegins_spec [Base W] W v0 l n m (i64_bounds w1) (i64_bounds w2) r1 r2).mono fun v L' ⟨h1, h2⟩ => ⟨h1, [], h2.symm⟩)
theorem own : ownKnob Try.prog.godebug = none := by kernel_rfl
set_option maxRecDepth 100000 in
theorem lifted (os : Os) (started : os.Started) (H : Type) (enc : TypeId × Value → H) :
    ReturnsInHanded {} Try.checked os 3 .any (Rows.traceBeginsSpec.pre6 enc Try.prog Try.f3 Rows.traceBeginsRow.domain false) (Rows.traceBeginsSpec.post enc Try.prog Try.f3 false true false false) :=
  row_lifted (C := Try.checked) (fn := Try.f3) own started (by kernel_rfl) Try.func3
    (ChangeSpec.witness6 (enc := enc) (C := Try.checked) false ⟨#[], #[.slice none 0 0, .int .i64 0, .int .i64 0], []⟩ 8 (by kernel_rfl) (by kernel_rfl) (by kernel_rfl) (by kernel_rfl))
    rfl rfl (fun ds h => by
      rw [Try.params3] at h
      match ds, h with
      | [_, _, _], _ => rfl)
    rfl Try.underlying4 (by kernel_rfl) (by decide +kernel) (fun W vs h => walk W vs (by rw [Try.params3] at h; exact h))

theorem over : Rows.traceBeginsRow.holds Try.pinned (OpenSpec.ofChange Rows.traceBeginsSpec) :=
  OpenClaim.holds_of_wide 3 Try.f3 rfl rfl rfl rfl rfl rfl rfl ⟨rfl, rfl, rfl, rfl, rfl⟩ rfl rfl rfl rfl rfl (by kernel_rfl) Try.func3 (by kernel_rfl)
    (of_decide_eq_true (by kernel_rfl)) (by unfold Func.isWrapper; first | (rw [if_pos (by decide +kernel)]; kernel_rfl) | (rw [if_neg (by decide +kernel)]; exact ⟨rfl, rfl⟩))
    (fun os started H enc _ => lifted os started H enc)
theorem proved : Rows.TraceBeginsSaid := over
#print axioms proved
end Go.Proofs.Ytmiddmmmgiopoaa.traceBegins
