/- JournalKeeps returns true for any arguments; nothing of the old memory is turned. No condition. -/
import Derived.Test.YtamjkmnhgajlcaaArgT
import Derived.Test.YtamjkmnhgajlcaaLaw13Keeps
namespace Go.Proofs.Ytamjkmnhgajlcaa.journalKeeps
open Go.ChangeShapes Go.WideShapes Go.ChangeAt Go.RowKit Go.Bs
set_option linter.unusedVariables false
theorem walk (W : World) (vs : List Value) (h : Args Try.prog W [24] vs) :
    Calls Try.prog 7 vs.toArray W fun e w' => e = .returned (.bool true) ∧ Below W.heap.size W w' := by
  match vs, h with
  | [v0], ⟨h0, _⟩ =>
    obtain ⟨a0, r0, s0, _, _⟩ := argv_txts h0
    exact Ct.calls ((journalKeeps_spec [Base W] W v0 a0 r0 s0).mono fun v L' ⟨h1, h2⟩ => ⟨h1, [], h2.symm⟩)
theorem own : ownKnob Try.prog.godebug = none := by kernel_rfl
set_option maxRecDepth 100000 in
theorem lifted (os : Os) (started : os.Started) (H : Type) (enc : TypeId × Value → H) :
    ReturnsInHanded {} Try.checked os 7 .any (Rows.journalKeepsSpec.pre6 enc Try.prog Try.f7 Rows.journalKeepsRow.domain false) (Rows.journalKeepsSpec.post enc Try.prog Try.f7 false true false false) :=
  row_lifted (C := Try.checked) (fn := Try.f7) own started (by kernel_rfl) Try.func7
    (ChangeSpec.witness6 (enc := enc) (C := Try.checked) false ⟨#[], #[.slice none 0 0], []⟩ 8 (by kernel_rfl) (by kernel_rfl) (by kernel_rfl) (by kernel_rfl))
    rfl rfl (fun ds h => by
      rw [Try.params7] at h
      match ds, h with
      | [_], _ => rfl)
    rfl Try.underlying4 (by kernel_rfl) (by decide +kernel) (fun W vs h => walk W vs (by rw [Try.params7] at h; exact h))

theorem over : Rows.journalKeepsRow.holds Try.pinned (OpenSpec.ofChange Rows.journalKeepsSpec) :=
  OpenClaim.holds_of_wide 7 Try.f7 rfl rfl rfl rfl rfl rfl rfl ⟨rfl, rfl, rfl, rfl, rfl⟩ rfl rfl rfl rfl rfl (by kernel_rfl) Try.func7 (by kernel_rfl)
    (of_decide_eq_true (by kernel_rfl)) (by unfold Func.isWrapper; first | (rw [if_pos (by decide +kernel)]; kernel_rfl) | (rw [if_neg (by decide +kernel)]; exact ⟨rfl, rfl⟩))
    (fun os started H enc _ => lifted os started H enc)
theorem proved : Rows.JournalKeepsSaid := over
#print axioms proved
end Go.Proofs.Ytamjkmnhgajlcaa.journalKeeps
