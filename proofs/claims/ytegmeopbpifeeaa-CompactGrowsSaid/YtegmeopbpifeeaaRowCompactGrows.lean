/- CompactGrows returns true for any arguments; nothing of the old memory is turned. No condition. -/
import Derived.Test.YtegmeopbpifeeaaArgT
import Derived.Test.YtegmeopbpifeeaaLaw7Grows
namespace Go.Proofs.Ytegmeopbpifeeaa.compactGrows
open Go.ChangeShapes Go.WideShapes Go.ChangeAt Go.RowKit Go.Bs
set_option linter.unusedVariables false
theorem walk (W : World) (vs : List Value) (h : Args Try.prog W [22] vs) :
    Calls Try.prog 5 vs.toArray W fun e w' => e = .returned (.bool true) ∧ Below W.heap.size W w' := by
  match vs, h with
  | [v0], ⟨h0, _⟩ =>
    obtain ⟨a0, r0, s0, _, _⟩ := argv_txts h0
    exact Ct.calls ((compactGrows_spec [Base W] W v0 a0 r0 s0).mono fun v L' ⟨h1, h2⟩ => ⟨h1, [], h2.symm⟩)
theorem own : ownKnob Try.prog.godebug = none := by kernel_rfl
set_option maxRecDepth 100000 in
theorem lifted (os : Os) (started : os.Started) (H : Type) (enc : TypeId × Value → H) :
    ReturnsInHanded {} Try.checked os 5 .any (Rows.compactGrowsSpec.pre6 enc Try.prog Try.f5 Rows.compactGrowsRow.domain false) (Rows.compactGrowsSpec.post enc Try.prog Try.f5 false true false false) :=
  row_lifted (C := Try.checked) (fn := Try.f5) own started (by kernel_rfl) Try.func5
    (ChangeSpec.witness6 (enc := enc) (C := Try.checked) false ⟨#[], #[.slice none 0 0], []⟩ 8 (by kernel_rfl) (by kernel_rfl) (by kernel_rfl) (by kernel_rfl))
    rfl rfl (fun ds h => by
      rw [Try.params5] at h
      match ds, h with
      | [_], _ => rfl)
    rfl Try.underlying4 (by kernel_rfl) (by decide +kernel) (fun W vs h => walk W vs (by rw [Try.params5] at h; exact h))

theorem over : Rows.compactGrowsRow.holds Try.pinned (OpenSpec.ofChange Rows.compactGrowsSpec) :=
  OpenClaim.holds_of_wide 5 Try.f5 rfl rfl rfl rfl rfl rfl rfl ⟨rfl, rfl, rfl, rfl, rfl⟩ rfl rfl rfl rfl rfl (by kernel_rfl) Try.func5 (by kernel_rfl)
    (of_decide_eq_true (by kernel_rfl)) (by unfold Func.isWrapper; first | (rw [if_pos (by decide +kernel)]; kernel_rfl) | (rw [if_neg (by decide +kernel)]; exact ⟨rfl, rfl⟩))
    (fun os started H enc _ => lifted os started H enc)
theorem proved : Rows.CompactGrowsSaid := over
#print axioms proved
end Go.Proofs.Ytegmeopbpifeeaa.compactGrows
