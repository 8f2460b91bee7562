/- CompactNumbers returns true for any arguments; nothing of the old memory is turned. No condition. -/
import Derived.Test.YtegmeopbpifeeaaArg
import Derived.Test.YtegmeopbpifeeaaLaw7Numbers
namespace Go.Proofs.Ytegmeopbpifeeaa.compactNumbers
open Go.ChangeShapes Go.WideShapes Go.ChangeAt Go.RowKit Go.Bs
set_option linter.unusedVariables false
theorem walk (W : World) (vs : List Value) (h : Args Try.prog W [] vs) :
    Calls Try.prog 4 vs.toArray W fun e w' => e = .returned (.bool true) ∧ Below W.heap.size W w' := by
  match vs, h with
  | [], _ =>

    exact Ct.calls ((compactNumbers_spec [Base W] W ).mono fun v L' ⟨h1, h2⟩ => ⟨h1, [], h2.symm⟩)
theorem own : ownKnob Try.prog.godebug = none := by kernel_rfl
set_option maxRecDepth 100000 in
theorem lifted (os : Os) (started : os.Started) (H : Type) (enc : TypeId × Value → H) :
    ReturnsInHanded {} Try.checked os 4 .any (Rows.compactNumbersSpec.pre6 enc Try.prog Try.f4 Rows.compactNumbersRow.domain false) (Rows.compactNumbersSpec.post enc Try.prog Try.f4 false true false false) :=
  row_lifted (C := Try.checked) (fn := Try.f4) own started (by kernel_rfl) Try.func4
    (ChangeSpec.witness6 (enc := enc) (C := Try.checked) false ⟨#[], #[], []⟩ 8 (by kernel_rfl) (by kernel_rfl) (by kernel_rfl) (by kernel_rfl))
    rfl rfl (fun ds h => by
      rw [Try.params4] at h
      match ds, h with
      | [], _ => rfl)
    rfl Try.underlying4 (by kernel_rfl) (by decide +kernel) (fun W vs h => walk W vs (by rw [Try.params4] at h; exact h))

theorem over : Rows.compactNumbersRow.holds Try.pinned (OpenSpec.ofChange Rows.compactNumbersSpec) :=
  OpenClaim.holds_of_wide 4 Try.f4 rfl rfl rfl rfl rfl rfl rfl ⟨rfl, rfl, rfl, rfl, rfl⟩ rfl rfl rfl rfl rfl (by kernel_rfl) Try.func4 (by kernel_rfl)
    (of_decide_eq_true (by kernel_rfl)) (by unfold Func.isWrapper; first | (rw [if_pos (by decide +kernel)]; kernel_rfl) | (rw [if_neg (by decide +kernel)]; exact ⟨rfl, rfl⟩))
    (fun os started H enc _ => lifted os started H enc)
theorem proved : Rows.CompactNumbersSaid := over
#print axioms proved
end Go.Proofs.Ytegmeopbpifeeaa.compactNumbers
