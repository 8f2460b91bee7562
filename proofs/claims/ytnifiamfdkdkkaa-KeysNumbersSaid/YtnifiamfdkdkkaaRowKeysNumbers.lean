/- KeysNumbers returns true for any arguments; nothing of the old memory is turned. No condition. -/
import Derived.Test.YtnifiamfdkdkkaaArg
import Derived.Test.YtnifiamfdkdkkaaLaw14Numbers
namespace Go.Proofs.Ytnifiamfdkdkkaa.keysNumbers
open Go.ChangeShapes Go.WideShapes Go.ChangeAt Go.RowKit Go.Bs
set_option linter.unusedVariables false
theorem walk (W : World) (vs : List Value) (h : Args Try.prog W [] vs) :
    Calls Try.prog 3 vs.toArray W fun e w' => e = .returned (.bool true) ∧ Below W.heap.size W w' := by
  match vs, h with
  | [], _ =>

    exact Ct.calls ((keysNumbers_spec [Base W] W ).mono fun v L' ⟨h1, h2⟩ => ⟨h1, [], h2.symm⟩)
theorem own : ownKnob Try.prog.godebug = none := by kernel_rfl
set_option maxRecDepth 100000 in
theorem lifted (os : Os) (started : os.Started) (H : Type) (enc : TypeId × Value → H) :
    ReturnsInHanded {} Try.checked os 3 .any (Rows.keysNumbersSpec.pre6 enc Try.prog Try.f3 Rows.keysNumbersRow.domain false) (Rows.keysNumbersSpec.post enc Try.prog Try.f3 false true false false) :=
  row_lifted (C := Try.checked) (fn := Try.f3) own started (by kernel_rfl) Try.func3
    (ChangeSpec.witness6 (enc := enc) (C := Try.checked) false ⟨#[], #[], []⟩ 8 (by kernel_rfl) (by kernel_rfl) (by kernel_rfl) (by kernel_rfl))
    rfl rfl (fun ds h => by
      rw [Try.params3] at h
      match ds, h with
      | [], _ => rfl)
    rfl Try.underlying4 (by kernel_rfl) (by decide +kernel) (fun W vs h => walk W vs (by rw [Try.params3] at h; exact h))

theorem over : Rows.keysNumbersRow.holds Try.pinned (OpenSpec.ofChange Rows.keysNumbersSpec) :=
  OpenClaim.holds_of_wide 3 Try.f3 rfl rfl rfl rfl rfl rfl rfl ⟨rfl, rfl, rfl, rfl, rfl⟩ rfl rfl rfl rfl rfl (by kernel_rfl) Try.func3 (by kernel_rfl)
    (of_decide_eq_true (by kernel_rfl)) (by unfold Func.isWrapper; first | (rw [if_pos (by decide +kernel)]; kernel_rfl) | (rw [if_neg (by decide +kernel)]; exact ⟨rfl, rfl⟩))
    (fun os started H enc _ => lifted os started H enc)
theorem proved : Rows.KeysNumbersSaid := over
#print axioms proved
end Go.Proofs.Ytnifiamfdkdkkaa.keysNumbers
