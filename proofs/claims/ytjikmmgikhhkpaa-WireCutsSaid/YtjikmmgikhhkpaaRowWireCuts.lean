/- WireCuts returns true for any list of texts and any cut; nothing of the old memory is turned. No condition. -/
import Derived.Test.YtjikmmgikhhkpaaArgT
import Derived.Test.YtjikmmgikhhkpaaLaw1Cuts
namespace Go.Proofs.Ytjikmmgikhhkpaa.wireCuts
open Go.ChangeShapes Go.WideShapes Go.ChangeAt Go.RowKit Go.Bs
set_option linter.unusedVariables false
theorem walk (W : World) (vs : List Value) (h : Args Try.prog W [49, 3] vs) :
    Calls Try.prog 8 vs.toArray W fun e w' => e = .returned (.bool true) ∧ Below W.heap.size W w' := by
  match vs, h with
  | [v0, v1], ⟨h0, h1, _⟩ =>
    obtain ⟨l0, r0, t0, _⟩ := argv_txts h0
    obtain ⟨n, rfl, w1⟩ := argv_int Try.underlying3 h1
    exact Ct.calls ((wireCuts_spec [Base W] W v0 l0 n r0 t0 (i64_bounds w1)).mono fun v L' ⟨h1, h2⟩ => ⟨h1, [], h2⟩)
theorem own : ownKnob Try.prog.godebug = none := by kernel_rfl
set_option maxRecDepth 100000 in
theorem lifted (os : Os) (started : os.Started) (H : Type) (enc : TypeId × Value → H) :
    ReturnsInHanded {} Try.checked os 8 .any (Rows.wireCutsSpec.pre6 enc Try.prog Try.f8 Rows.wireCutsRow.domain false) (Rows.wireCutsSpec.post enc Try.prog Try.f8 false true false false) :=
  row_lifted (C := Try.checked) (fn := Try.f8) own started (by kernel_rfl) Try.func8
    (ChangeSpec.witness6 (enc := enc) (C := Try.checked) false ⟨#[], #[.slice none 0 0, .int .i64 0], []⟩ 8 (by kernel_rfl) (by kernel_rfl) (by kernel_rfl) (by kernel_rfl))
    rfl rfl (fun ds h => by
      rw [Try.params8] at h
      match ds, h with
      | [_, _], _ => rfl)
    rfl Try.underlying4 (by kernel_rfl) (by decide +kernel) (fun W vs h => walk W vs (by rw [Try.params8] at h; exact h))

theorem over : Rows.wireCutsRow.holds Try.pinned (OpenSpec.ofChange Rows.wireCutsSpec) :=
  OpenClaim.holds_of_wide 8 Try.f8 rfl rfl rfl rfl rfl rfl rfl ⟨rfl, rfl, rfl, rfl, rfl⟩ rfl rfl rfl rfl rfl (by kernel_rfl) Try.func8 (by kernel_rfl)
    (of_decide_eq_true (by kernel_rfl)) (by unfold Func.isWrapper; first | (rw [if_pos (by decide +kernel)]; kernel_rfl) | (rw [if_neg (by decide +kernel)]; exact ⟨rfl, rfl⟩))
    (fun os started H enc _ => lifted os started H enc)
theorem proved : Rows.WireCutsSaid := over
#print axioms proved
end Go.Proofs.Ytjikmmgikhhkpaa.wireCuts
