/- KeysOnce returns true for any arguments; nothing of the old memory is turned. No condition. -/
import Derived.Test.YtnifiamfdkdkkaaArgT
import Derived.Test.YtnifiamfdkdkkaaLaw14Once
namespace Go.Proofs.Ytnifiamfdkdkkaa.keysOnce
open Go.ChangeShapes Go.WideShapes Go.ChangeAt Go.RowKit Go.Bs
set_option linter.unusedVariables false
theorem walk (W : World) (vs : List Value) (h : Args Try.prog W [45, 45] vs) :
    Calls Try.prog 6 vs.toArray W fun e w' => e = .returned (.bool true) ∧ Below W.heap.size W w' := by
  match vs, h with
  | [v0, v1], ⟨h0, h1, _⟩ =>
    obtain ⟨a0, r0, t0⟩ := argv_nums h0
    obtain ⟨a1, r1, t1⟩ := argv_nums h1
    exact Ct.calls ((keysOnce_spec [Base W] W v0 v1 a0 a1 r0 t0 r1 t1).mono fun v L' ⟨h1, h2⟩ => ⟨h1, [], h2.symm⟩)
theorem own : ownKnob Try.prog.godebug = none := by kernel_rfl
set_option maxRecDepth 100000 in
theorem lifted (os : Os) (started : os.Started) (H : Type) (enc : TypeId × Value → H) :
    ReturnsInHanded {} Try.checked os 6 .any (Rows.keysOnceSpec.pre6 enc Try.prog Try.f6 Rows.keysOnceRow.domain false) (Rows.keysOnceSpec.post enc Try.prog Try.f6 false true false false) :=
  row_lifted (C := Try.checked) (fn := Try.f6) own started (by kernel_rfl) Try.func6
    (ChangeSpec.witness6 (enc := enc) (C := Try.checked) false ⟨#[], #[.slice none 0 0, .slice none 0 0], []⟩ 8 (by kernel_rfl) (by kernel_rfl) (by kernel_rfl) (by kernel_rfl))
    rfl rfl (fun ds h => by
      rw [Try.params6] at h
      match ds, h with
      | [_, _], _ => rfl)
    rfl Try.underlying4 (by kernel_rfl) (by decide +kernel) (fun W vs h => walk W vs (by rw [Try.params6] at h; exact h))

theorem over : Rows.keysOnceRow.holds Try.pinned (OpenSpec.ofChange Rows.keysOnceSpec) :=
  OpenClaim.holds_of_wide 6 Try.f6 rfl rfl rfl rfl rfl rfl rfl ⟨rfl, rfl, rfl, rfl, rfl⟩ rfl rfl rfl rfl rfl (by kernel_rfl) Try.func6 (by kernel_rfl)
    (of_decide_eq_true (by kernel_rfl)) (by unfold Func.isWrapper; first | (rw [if_pos (by decide +kernel)]; kernel_rfl) | (rw [if_neg (by decide +kernel)]; exact ⟨rfl, rfl⟩))
    (fun os started H enc _ => lifted os started H enc)
theorem proved : Rows.KeysOnceSaid := over
#print axioms proved
end Go.Proofs.Ytnifiamfdkdkkaa.keysOnce
