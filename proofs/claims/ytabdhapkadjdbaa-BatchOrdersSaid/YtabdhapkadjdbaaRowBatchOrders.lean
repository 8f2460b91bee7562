/- BatchOrders returns true for any two numbers and either truth value; nothing of the old memory is turned. No condition. -/
import Derived.Test.YtabdhapkadjdbaaArg
import Derived.Test.YtabdhapkadjdbaaLaw16Orders
namespace Go.Proofs.Ytabdhapkadjdbaa.batchOrders
open Go.ChangeShapes Go.WideShapes Go.ChangeAt Go.RowKit Go.Bs
set_option linter.unusedVariables false
theorem walk (W : World) (vs : List Value) (h : Args Try.prog W [3, 3, 4] vs) :
    Calls Try.prog 5 vs.toArray W fun e w' => e = .returned (.bool true) ∧ Below W.heap.size W w' := by
  match vs, h with
  | [v0, v1, v2], ⟨h0, h1, h2, _⟩ =>
    obtain ⟨n, rfl, w1⟩ := argv_int Try.underlying3 h0
    obtain ⟨m, rfl, w2⟩ := argv_int Try.underlying3 h1
    obtain ⟨b, rfl⟩ := argv_bool Try.underlying4 h2
    exact Ct.calls ((batchOrders_spec [Base W] W n m b (i64_bounds w1) (i64_bounds w2)).mono fun v L' ⟨h1, h2⟩ => ⟨h1, [], h2.symm⟩)
theorem own : ownKnob Try.prog.godebug = none := by kernel_rfl
set_option maxRecDepth 100000 in
theorem lifted (os : Os) (started : os.Started) (H : Type) (enc : TypeId × Value → H) :
    ReturnsInHanded {} Try.checked os 5 .any (Rows.batchOrdersSpec.pre6 enc Try.prog Try.f5 Rows.batchOrdersRow.domain false) (Rows.batchOrdersSpec.post enc Try.prog Try.f5 false true false false) :=
  row_lifted (C := Try.checked) (fn := Try.f5) own started (by kernel_rfl) Try.func5
    (ChangeSpec.witness6 (enc := enc) (C := Try.checked) false ⟨#[], #[.int .i64 0, .int .i64 0, .bool false], []⟩ 8 (by kernel_rfl) (by kernel_rfl) (by kernel_rfl) (by kernel_rfl))
    rfl rfl (fun ds h => by
      rw [Try.params5] at h
      match ds, h with
      | [_, _, _], _ => rfl)
    rfl Try.underlying4 (by kernel_rfl) (by decide +kernel) (fun W vs h => walk W vs (by rw [Try.params5] at h; exact h))

theorem over : Rows.batchOrdersRow.holds Try.pinned (OpenSpec.ofChange Rows.batchOrdersSpec) :=
  OpenClaim.holds_of_wide 5 Try.f5 rfl rfl rfl rfl rfl rfl rfl ⟨rfl, rfl, rfl, rfl, rfl⟩ rfl rfl rfl rfl rfl (by kernel_rfl) Try.func5 (by kernel_rfl)
    (of_decide_eq_true (by kernel_rfl)) (by unfold Func.isWrapper; first | (rw [if_pos (by decide +kernel)]; kernel_rfl) | (rw [if_neg (by decide +kernel)]; exact ⟨rfl, rfl⟩))
    (fun os started H enc _ => lifted os started H enc)
theorem proved : Rows.BatchOrdersSaid := over
#print axioms proved
end Go.Proofs.Ytabdhapkadjdbaa.batchOrders
