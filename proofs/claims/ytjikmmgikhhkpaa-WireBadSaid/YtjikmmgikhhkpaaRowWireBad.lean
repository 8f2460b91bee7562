/- WireBad returns true for any bytes, any number and any calls; nothing of the old memory is turned. No condition. -/
import Derived.Test.YtjikmmgikhhkpaaArg1
import Derived.Test.YtjikmmgikhhkpaaLaw1Bad
namespace Go.Proofs.Ytjikmmgikhhkpaa.wireBad
set_option linter.unusedSimpArgs false
open Go.ChangeShapes Go.WideShapes Go.ChangeAt Go.RowKit Go.Bs
set_option linter.unusedVariables false

theorem walk (W : World) (vs : List Value) (h : Args Try.prog W [26, 3, 33] vs) :
    Calls Try.prog 4 vs.toArray W fun e w' => e = .returned (.bool true) ∧ Below W.heap.size W w' := by
  match vs, h with
  | [v0, v1, v2], ⟨h0, h1, h2, _⟩ =>
    obtain ⟨v, b, e0, r0, _⟩ := arg_bytes Try.underlying26 Try.underlying5 (by kernel_rfl) (by kernel_rfl) (argv_slice Try.underlying26 h0)
    cases e0
    obtain ⟨n, rfl, w1⟩ := argv_int Try.underlying3 h1
    obtain ⟨l, r2, _, _⟩ := arg_asks1 (argv_slice Try.underlying33 h2)
    exact Ct.calls ((wireBad_spec [Base W] W v0 v2 b n l r0 (i64_bounds w1) r2).mono fun v L' ⟨h1, h2⟩ => ⟨h1, [], h2⟩)
theorem own : ownKnob Try.prog.godebug = none := by kernel_rfl
set_option maxRecDepth 100000 in
theorem lifted (os : Os) (started : os.Started) (H : Type) (enc : TypeId × Value → H) :
    ReturnsInHanded {} Try.checked os 4 .any (Rows.wireBadSpec.pre6 enc Try.prog Try.f4 Rows.wireBadRow.domain false) (Rows.wireBadSpec.post enc Try.prog Try.f4 false true false false) :=
  row_lifted (C := Try.checked) (fn := Try.f4) own started (by kernel_rfl) Try.func4
    (ChangeSpec.witness6 (enc := enc) (C := Try.checked) false ⟨#[], #[.slice none 0 0, .int .i64 0, .slice none 0 0], []⟩ 8 (by kernel_rfl) (by kernel_rfl) (by kernel_rfl) (by kernel_rfl))
    rfl rfl (fun ds h => by
      rw [Try.params4] at h
      match ds, h with
      | [_, _, _], _ => rfl)
    rfl Try.underlying4 (by kernel_rfl) (by decide +kernel) (fun W vs h => walk W vs (by rw [Try.params4] at h; exact h))

theorem over : Rows.wireBadRow.holds Try.pinned (OpenSpec.ofChange Rows.wireBadSpec) :=
  OpenClaim.holds_of_wide 4 Try.f4 rfl rfl rfl rfl rfl rfl rfl ⟨rfl, rfl, rfl, rfl, rfl⟩ rfl rfl rfl rfl rfl (by kernel_rfl) Try.func4 (by kernel_rfl)
    (of_decide_eq_true (by kernel_rfl)) (by unfold Func.isWrapper; first | (rw [if_pos (by decide +kernel)]; kernel_rfl) | (rw [if_neg (by decide +kernel)]; exact ⟨rfl, rfl⟩))
    (fun os started H enc _ => lifted os started H enc)
theorem proved : Rows.WireBadSaid := over
#print axioms proved
end Go.Proofs.Ytjikmmgikhhkpaa.wireBad
