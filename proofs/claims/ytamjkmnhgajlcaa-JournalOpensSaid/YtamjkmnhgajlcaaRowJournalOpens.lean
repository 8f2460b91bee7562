/- JournalOpens returns true for any texts, bytes and numbers; nothing of the old memory is turned. No condition. -/
import Derived.Test.YtamjkmnhgajlcaaArgT
import Derived.Test.YtamjkmnhgajlcaaLaw13Opens
namespace Go.Proofs.Ytamjkmnhgajlcaa.journalOpens
open Go.ChangeShapes Go.WideShapes Go.ChangeAt Go.RowKit Go.Bs
set_option linter.unusedVariables false
theorem walk (W : World) (vs : List Value) (h : Args Try.prog W [24, 22, 3, 5, 3] vs) :
    Calls Try.prog 4 vs.toArray W fun e w' => e = .returned (.bool true) ∧ Below W.heap.size W w' := by
  match vs, h with
  | [v0, v1, v2, v3, v4], ⟨h0, h1, h2, h3, h4, _⟩ =>
    obtain ⟨l, r1, r2, _, _⟩ := argv_txts h0
    obtain ⟨b, r3, _⟩ := argv_bytes h1
    obtain ⟨n, rfl, w2⟩ := argv_int Try.underlying3 h2
    obtain ⟨t, rfl, w3⟩ := argv_int Try.underlying5 h3
    obtain ⟨k, rfl, w4⟩ := argv_int Try.underlying3 h4
    exact Ct.calls ((journalOpens_spec [Base W] W v0 v1 l b n t k (i64_bounds w2) (i64_bounds w4) r1 r2 r3).mono fun v L' ⟨h1, h2⟩ => ⟨h1, [], h2.symm⟩)
theorem own : ownKnob Try.prog.godebug = none := by kernel_rfl
set_option maxRecDepth 100000 in
theorem lifted (os : Os) (started : os.Started) (H : Type) (enc : TypeId × Value → H) :
    ReturnsInHanded {} Try.checked os 4 .any (Rows.journalOpensSpec.pre6 enc Try.prog Try.f4 Rows.journalOpensRow.domain false) (Rows.journalOpensSpec.post enc Try.prog Try.f4 false true false false) :=
  row_lifted (C := Try.checked) (fn := Try.f4) own started (by kernel_rfl) Try.func4
    (ChangeSpec.witness6 (enc := enc) (C := Try.checked) false ⟨#[], #[.slice none 0 0, .slice none 0 0, .int .i64 0, .int .u8 0, .int .i64 0], []⟩ 8 (by kernel_rfl) (by kernel_rfl) (by kernel_rfl) (by kernel_rfl))
    rfl rfl (fun ds h => by
      rw [Try.params4] at h
      match ds, h with
      | [_, _, _, _, _], _ => rfl)
    rfl Try.underlying4 (by kernel_rfl) (by decide +kernel) (fun W vs h => walk W vs (by rw [Try.params4] at h; exact h))

theorem over : Rows.journalOpensRow.holds Try.pinned (OpenSpec.ofChange Rows.journalOpensSpec) :=
  OpenClaim.holds_of_wide 4 Try.f4 rfl rfl rfl rfl rfl rfl rfl ⟨rfl, rfl, rfl, rfl, rfl⟩ rfl rfl rfl rfl rfl (by kernel_rfl) Try.func4 (by kernel_rfl)
    (of_decide_eq_true (by kernel_rfl)) (by unfold Func.isWrapper; first | (rw [if_pos (by decide +kernel)]; kernel_rfl) | (rw [if_neg (by decide +kernel)]; exact ⟨rfl, rfl⟩))
    (fun os started H enc _ => lifted os started H enc)
theorem proved : Rows.JournalOpensSaid := over
#print axioms proved
end Go.Proofs.Ytamjkmnhgajlcaa.journalOpens
