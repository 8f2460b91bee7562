/- JournalPlays returns true for any calls and any numbers; nothing of the old memory is turned. No condition. -/
import Derived.Test.YtamjkmnhgajlcaaArgT
import Derived.Test.YtamjkmnhgajlcaaArg13
import Derived.Test.YtamjkmnhgajlcaaLaw13PlayT
namespace Go.Proofs.Ytamjkmnhgajlcaa.journalPlays
open Go.ChangeShapes Go.WideShapes Go.ChangeAt Go.RowKit Go.Bs
set_option linter.unusedVariables false
theorem walk (W : World) (vs : List Value) (h : Args Try.prog W [48, 3, 3] vs) :
    Calls Try.prog 9 vs.toArray W fun e w' => e = .returned (.bool true) ∧ Below W.heap.size W w' := by
  match vs, h with
  | [v0, v1, v2], ⟨h0, h1, h2, _⟩ =>
    obtain ⟨l, r2, t2⟩ := argv_asks13 h0
    obtain ⟨n, rfl, w1⟩ := argv_int Try.underlying3 h1
    obtain ⟨m, rfl, w2⟩ := argv_int Try.underlying3 h2
    exact Ct.calls ((journalPlays_spec [Base W] W v0 l n m (i64_bounds w1) (i64_bounds w2) r2 t2).mono fun v L' ⟨h1, h2⟩ => ⟨h1, [], h2.symm⟩)
theorem own : ownKnob Try.prog.godebug = none := by kernel_rfl
set_option maxRecDepth 100000 in
theorem lifted (os : Os) (started : os.Started) (H : Type) (enc : TypeId × Value → H) :
    ReturnsInHanded {} Try.checked os 9 .any (Rows.journalPlaysSpec.pre6 enc Try.prog Try.f9 Rows.journalPlaysRow.domain false) (Rows.journalPlaysSpec.post enc Try.prog Try.f9 false true false false) :=
  row_lifted (C := Try.checked) (fn := Try.f9) own started (by kernel_rfl) Try.func9
    (ChangeSpec.witness6 (enc := enc) (C := Try.checked) false ⟨#[], #[.slice none 0 0, .int .i64 0, .int .i64 0], []⟩ 8 (by kernel_rfl) (by kernel_rfl) (by kernel_rfl) (by kernel_rfl))
    rfl rfl (fun ds h => by
      rw [Try.params9] at h
      match ds, h with
      | [_, _, _], _ => rfl)
    rfl Try.underlying4 (by kernel_rfl) (by decide +kernel) (fun W vs h => walk W vs (by rw [Try.params9] at h; exact h))

theorem over : Rows.journalPlaysRow.holds Try.pinned (OpenSpec.ofChange Rows.journalPlaysSpec) :=
  OpenClaim.holds_of_wide 9 Try.f9 rfl rfl rfl rfl rfl rfl rfl ⟨rfl, rfl, rfl, rfl, rfl⟩ rfl rfl rfl rfl rfl (by kernel_rfl) Try.func9 (by kernel_rfl)
    (of_decide_eq_true (by kernel_rfl)) (by unfold Func.isWrapper; first | (rw [if_pos (by decide +kernel)]; kernel_rfl) | (rw [if_neg (by decide +kernel)]; exact ⟨rfl, rfl⟩))
    (fun os started H enc _ => lifted os started H enc)
theorem proved : Rows.JournalPlaysSaid := over
#print axioms proved
end Go.Proofs.Ytamjkmnhgajlcaa.journalPlays
