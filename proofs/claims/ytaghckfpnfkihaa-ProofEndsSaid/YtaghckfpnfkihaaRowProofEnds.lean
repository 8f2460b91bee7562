/- ProofEnds returns true for any arguments; nothing of the old memory is turned. No condition. -/
import Derived.Test.YtaghckfpnfkihaaArgT
import Derived.Test.YtaghckfpnfkihaaLaw8Ends
namespace Go.Proofs.Ytaghckfpnfkihaa.proofEnds
open Go.ChangeShapes Go.WideShapes Go.ChangeAt Go.RowKit Go.Bs
set_option linter.unusedVariables false
theorem walk (W : World) (vs : List Value) (h : Args Try.prog W [3, 23] vs) :
    Calls Try.prog 10 vs.toArray W fun e w' => e = .returned (.bool true) ∧ Below W.heap.size W w' := by
  match vs, h with
  | [v0, v1], ⟨h0, h1, _⟩ =>
    obtain ⟨a0, rfl, w0⟩ := argv_int Try.underlying3 h0
    obtain ⟨a1, r1, _⟩ := argv_bytes h1
    exact Ct.calls ((proofEnds_spec [Base W] W a0 v1 a1 (i64_bounds w0) r1).mono fun v L' ⟨h1, h2⟩ => ⟨h1, [], h2.symm⟩)
theorem own : ownKnob Try.prog.godebug = none := by kernel_rfl
set_option maxRecDepth 100000 in
theorem lifted (os : Os) (started : os.Started) (H : Type) (enc : TypeId × Value → H) :
    ReturnsInHanded {} Try.checked os 10 .any (Rows.proofEndsSpec.pre6 enc Try.prog Try.f10 Rows.proofEndsRow.domain false) (Rows.proofEndsSpec.post enc Try.prog Try.f10 false true false false) :=
  row_lifted (C := Try.checked) (fn := Try.f10) own started (by kernel_rfl) Try.func10
    (ChangeSpec.witness6 (enc := enc) (C := Try.checked) false ⟨#[], #[.int .i64 0, .slice none 0 0], []⟩ 8 (by kernel_rfl) (by kernel_rfl) (by kernel_rfl) (by kernel_rfl))
    rfl rfl (fun ds h => by
      rw [Try.params10] at h
      match ds, h with
      | [_, _], _ => rfl)
    rfl Try.underlying4 (by kernel_rfl) (by decide +kernel) (fun W vs h => walk W vs (by rw [Try.params10] at h; exact h))

theorem over : Rows.proofEndsRow.holds Try.pinned (OpenSpec.ofChange Rows.proofEndsSpec) :=
  OpenClaim.holds_of_wide 10 Try.f10 rfl rfl rfl rfl rfl rfl rfl ⟨rfl, rfl, rfl, rfl, rfl⟩ rfl rfl rfl rfl rfl (by kernel_rfl) Try.func10 (by kernel_rfl)
    (of_decide_eq_true (by kernel_rfl)) (by unfold Func.isWrapper; first | (rw [if_pos (by decide +kernel)]; kernel_rfl) | (rw [if_neg (by decide +kernel)]; exact ⟨rfl, rfl⟩))
    (fun os started H enc _ => lifted os started H enc)
theorem proved : Rows.ProofEndsSaid := over
#print axioms proved
end Go.Proofs.Ytaghckfpnfkihaa.proofEnds
