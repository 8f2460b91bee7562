/- KeysOpens returns true for any arguments; nothing of the old memory is turned. No condition. -/
import Derived.Test.YtnifiamfdkdkkaaArgT
import Derived.Test.YtnifiamfdkdkkaaLaw14Opens
namespace Go.Proofs.Ytnifiamfdkdkkaa.keysOpens
open Go.ChangeShapes Go.WideShapes Go.ChangeAt Go.RowKit Go.Bs
set_option linter.unusedVariables false
theorem walk (W : World) (vs : List Value) (h : Args Try.prog W [3, 3, 5, 24, 3] vs) :
    Calls Try.prog 4 vs.toArray W fun e w' => e = .returned (.bool true) ∧ Below W.heap.size W w' := by
  match vs, h with
  | [v0, v1, v2, v3, v4], ⟨h0, h1, h2, h3, h4, _⟩ =>
    obtain ⟨a0, rfl, w0⟩ := argv_int Try.underlying3 h0
    obtain ⟨a1, rfl, w1⟩ := argv_int Try.underlying3 h1
    obtain ⟨a2, rfl, w2⟩ := argv_int Try.underlying5 h2
    obtain ⟨a3, r3, w3⟩ := argv_bytes h3
    obtain ⟨a4, rfl, w4⟩ := argv_int Try.underlying3 h4
    exact Ct.calls ((keysOpens_spec [Base W] W v3 a0 a1 a2 a3 a4 (i64_bounds w0) (i64_bounds w1) (i64_bounds w4) r3 w3).mono fun v L' ⟨h1, h2⟩ => ⟨h1, [], h2.symm⟩)
theorem own : ownKnob Try.prog.godebug = none := by kernel_rfl
set_option maxRecDepth 100000 in
theorem lifted (os : Os) (started : os.Started) (H : Type) (enc : TypeId × Value → H) :
    ReturnsInHanded {} Try.checked os 4 .any (Rows.keysOpensSpec.pre6 enc Try.prog Try.f4 Rows.keysOpensRow.domain false) (Rows.keysOpensSpec.post enc Try.prog Try.f4 false true false false) :=
  row_lifted (C := Try.checked) (fn := Try.f4) own started (by kernel_rfl) Try.func4
    (ChangeSpec.witness6 (enc := enc) (C := Try.checked) false ⟨#[], #[.int .i64 0, .int .i64 0, .int .u8 0, .slice none 0 0, .int .i64 0], []⟩ 8 (by kernel_rfl) (by kernel_rfl) (by kernel_rfl) (by kernel_rfl))
    rfl rfl (fun ds h => by
      rw [Try.params4] at h
      match ds, h with
      | [_, _, _, _, _], _ => rfl)
    rfl Try.underlying4 (by kernel_rfl) (by decide +kernel) (fun W vs h => walk W vs (by rw [Try.params4] at h; exact h))

theorem over : Rows.keysOpensRow.holds Try.pinned (OpenSpec.ofChange Rows.keysOpensSpec) :=
  OpenClaim.holds_of_wide 4 Try.f4 rfl rfl rfl rfl rfl rfl rfl ⟨rfl, rfl, rfl, rfl, rfl⟩ rfl rfl rfl rfl rfl (by kernel_rfl) Try.func4 (by kernel_rfl)
    (of_decide_eq_true (by kernel_rfl)) (by unfold Func.isWrapper; first | (rw [if_pos (by decide +kernel)]; kernel_rfl) | (rw [if_neg (by decide +kernel)]; exact ⟨rfl, rfl⟩))
    (fun os started H enc _ => lifted os started H enc)
theorem proved : Rows.KeysOpensSaid := over
#print axioms proved
end Go.Proofs.Ytnifiamfdkdkkaa.keysOpens
