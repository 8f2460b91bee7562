/- JournalTorn returns true for any arguments; nothing of the old memory is turned. No condition. -/
import Derived.Test.YtamjkmnhgajlcaaArgT
import Derived.Test.YtamjkmnhgajlcaaLaw13Torn
namespace Go.Proofs.Ytamjkmnhgajlcaa.journalTorn
open Go.ChangeShapes Go.WideShapes Go.ChangeAt Go.RowKit Go.Bs
set_option linter.unusedVariables false
theorem walk (W : World) (vs : List Value) (h : Args Try.prog W [24, 22, 3] vs) :
    Calls Try.prog 8 vs.toArray W fun e w' => e = .returned (.bool true) ∧ Below W.heap.size W w' := by
  match vs, h with
  | [v0, v1, v2], ⟨h0, h1, h2, _⟩ =>
    obtain ⟨a0, r0, s0, _, _⟩ := argv_txts h0
    obtain ⟨a1, r1, _⟩ := argv_bytes h1
    obtain ⟨a2, rfl, w2⟩ := argv_int Try.underlying3 h2
    exact Ct.calls ((journalTorn_spec [Base W] W v0 v1 a0 a1 a2 (i64_bounds w2) r0 s0 r1).mono fun v L' ⟨h1, h2⟩ => ⟨h1, [], h2.symm⟩)
theorem own : ownKnob Try.prog.godebug = none := by kernel_rfl
set_option maxRecDepth 100000 in
theorem lifted (os : Os) (started : os.Started) (H : Type) (enc : TypeId × Value → H) :
    ReturnsInHanded {} Try.checked os 8 .any (Rows.journalTornSpec.pre6 enc Try.prog Try.f8 Rows.journalTornRow.domain false) (Rows.journalTornSpec.post enc Try.prog Try.f8 false true false false) :=
  row_lifted (C := Try.checked) (fn := Try.f8) own started (by kernel_rfl) Try.func8
    (ChangeSpec.witness6 (enc := enc) (C := Try.checked) false ⟨#[], #[.slice none 0 0, .slice none 0 0, .int .i64 0], []⟩ 8 (by kernel_rfl) (by kernel_rfl) (by kernel_rfl) (by kernel_rfl))
    rfl rfl (fun ds h => by
      rw [Try.params8] at h
      match ds, h with
      | [_, _, _], _ => rfl)
    rfl Try.underlying4 (by kernel_rfl) (by decide +kernel) (fun W vs h => walk W vs (by rw [Try.params8] at h; exact h))

theorem over : Rows.journalTornRow.holds Try.pinned (OpenSpec.ofChange Rows.journalTornSpec) :=
  OpenClaim.holds_of_wide 8 Try.f8 rfl rfl rfl rfl rfl rfl rfl ⟨rfl, rfl, rfl, rfl, rfl⟩ rfl rfl rfl rfl rfl (by kernel_rfl) Try.func8 (by kernel_rfl)
    (of_decide_eq_true (by kernel_rfl)) (by unfold Func.isWrapper; first | (rw [if_pos (by decide +kernel)]; kernel_rfl) | (rw [if_neg (by decide +kernel)]; exact ⟨rfl, rfl⟩))
    (fun os started H enc _ => lifted os started H enc)
theorem proved : Rows.JournalTornSaid := over
#print axioms proved
end Go.Proofs.Ytamjkmnhgajlcaa.journalTorn
