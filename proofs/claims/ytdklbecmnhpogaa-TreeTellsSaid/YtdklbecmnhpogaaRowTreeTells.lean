/- TreeTells returns true for any arguments; nothing of the old memory is turned. No condition. -/
import Derived.Test.YtdklbecmnhpogaaArgT
import Derived.Test.YtdklbecmnhpogaaLaw6Tells
namespace Go.Proofs.Ytdklbecmnhpogaa.treeTells
open Go.ChangeShapes Go.WideShapes Go.ChangeAt Go.RowKit Go.Bs
set_option linter.unusedVariables false
theorem walk (W : World) (vs : List Value) (h : Args Try.prog W [22, 25, 25, 3, 3] vs) :
    Calls Try.prog 8 vs.toArray W fun e w' => e = .returned (.bool true) ∧ Below W.heap.size W w' := by
  match vs, h with
  | [v0, v1, v2, v3, v4], ⟨h0, h1, h2, h3, h4, _⟩ =>
    obtain ⟨a0, r0, s0, _, _⟩ := argv_txts h0
    obtain ⟨a1, r1, _⟩ := argv_bytes h1
    obtain ⟨a2, r2, _⟩ := argv_bytes h2
    obtain ⟨a3, rfl, w3⟩ := argv_int Try.underlying3 h3
    obtain ⟨a4, rfl, w4⟩ := argv_int Try.underlying3 h4
    exact Ct.calls ((treeTells_spec [Base W] W v0 v1 v2 a0 a1 a2 a3 a4 r0 s0 r1 r2 (i64_bounds w3) (i64_bounds w4)).mono fun v L' ⟨h1, h2⟩ => ⟨h1, [], h2.symm⟩)
theorem own : ownKnob Try.prog.godebug = none := by kernel_rfl
set_option maxRecDepth 100000 in
theorem lifted (os : Os) (started : os.Started) (H : Type) (enc : TypeId × Value → H) :
    ReturnsInHanded {} Try.checked os 8 .any (Rows.treeTellsSpec.pre6 enc Try.prog Try.f8 Rows.treeTellsRow.domain false) (Rows.treeTellsSpec.post enc Try.prog Try.f8 false true false false) :=
  row_lifted (C := Try.checked) (fn := Try.f8) own started (by kernel_rfl) Try.func8
    (ChangeSpec.witness6 (enc := enc) (C := Try.checked) false ⟨#[], #[.slice none 0 0, .slice none 0 0, .slice none 0 0, .int .i64 0, .int .i64 0], []⟩ 8 (by kernel_rfl) (by kernel_rfl) (by kernel_rfl) (by kernel_rfl))
    rfl rfl (fun ds h => by
      rw [Try.params8] at h
      match ds, h with
      | [_, _, _, _, _], _ => rfl)
    rfl Try.underlying4 (by kernel_rfl) (by decide +kernel) (fun W vs h => walk W vs (by rw [Try.params8] at h; exact h))

theorem over : Rows.treeTellsRow.holds Try.pinned (OpenSpec.ofChange Rows.treeTellsSpec) :=
  OpenClaim.holds_of_wide 8 Try.f8 rfl rfl rfl rfl rfl rfl rfl ⟨rfl, rfl, rfl, rfl, rfl⟩ rfl rfl rfl rfl rfl (by kernel_rfl) Try.func8 (by kernel_rfl)
    (of_decide_eq_true (by kernel_rfl)) (by unfold Func.isWrapper; first | (rw [if_pos (by decide +kernel)]; kernel_rfl) | (rw [if_neg (by decide +kernel)]; exact ⟨rfl, rfl⟩))
    (fun os started H enc _ => lifted os started H enc)
theorem proved : Rows.TreeTellsSaid := over
#print axioms proved
end Go.Proofs.Ytdklbecmnhpogaa.treeTells
