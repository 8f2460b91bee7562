/- KeysFull returns true for any arguments; nothing of the old memory is turned. No condition. -/
import Derived.Test.YtnifiamfdkdkkaaArg
import Derived.Test.YtnifiamfdkdkkaaLaw14Full
namespace Go.Proofs.Ytnifiamfdkdkkaa.keysFull
open Go.ChangeShapes Go.WideShapes Go.ChangeAt Go.RowKit Go.Bs
set_option linter.unusedVariables false
theorem walk (W : World) (vs : List Value) (h : Args Try.prog W [3, 3] vs) :
    Calls Try.prog 5 vs.toArray W fun e w' => e = .returned (.bool true) ∧ Below W.heap.size W w' := by
  match vs, h with
  | [v0, v1], ⟨h0, h1, _⟩ =>
    obtain ⟨a0, rfl, w0⟩ := argv_int Try.underlying3 h0
    obtain ⟨a1, rfl, w1⟩ := argv_int Try.underlying3 h1
    exact Ct.calls ((keysFull_spec [Base W] W a0 a1 (i64_bounds w0) (i64_bounds w1)).mono fun v L' ⟨h1, h2⟩ => ⟨h1, [], h2.symm⟩)
theorem own : ownKnob Try.prog.godebug = none := by kernel_rfl
set_option maxRecDepth 100000 in
theorem lifted (os : Os) (started : os.Started) (H : Type) (enc : TypeId × Value → H) :
    ReturnsInHanded {} Try.checked os 5 .any (Rows.keysFullSpec.pre6 enc Try.prog Try.f5 Rows.keysFullRow.domain false) (Rows.keysFullSpec.post enc Try.prog Try.f5 false true false false) :=
  row_lifted (C := Try.checked) (fn := Try.f5) own started (by kernel_rfl) Try.func5
    (ChangeSpec.witness6 (enc := enc) (C := Try.checked) false ⟨#[], #[.int .i64 0, .int .i64 0], []⟩ 8 (by kernel_rfl) (by kernel_rfl) (by kernel_rfl) (by kernel_rfl))
    rfl rfl (fun ds h => by
      rw [Try.params5] at h
      match ds, h with
      | [_, _], _ => rfl)
    rfl Try.underlying4 (by kernel_rfl) (by decide +kernel) (fun W vs h => walk W vs (by rw [Try.params5] at h; exact h))

theorem over : Rows.keysFullRow.holds Try.pinned (OpenSpec.ofChange Rows.keysFullSpec) :=
  OpenClaim.holds_of_wide 5 Try.f5 rfl rfl rfl rfl rfl rfl rfl ⟨rfl, rfl, rfl, rfl, rfl⟩ rfl rfl rfl rfl rfl (by kernel_rfl) Try.func5 (by kernel_rfl)
    (of_decide_eq_true (by kernel_rfl)) (by unfold Func.isWrapper; first | (rw [if_pos (by decide +kernel)]; kernel_rfl) | (rw [if_neg (by decide +kernel)]; exact ⟨rfl, rfl⟩))
    (fun os started H enc _ => lifted os started H enc)
theorem proved : Rows.KeysFullSaid := over
#print axioms proved
end Go.Proofs.Ytnifiamfdkdkkaa.keysFull
