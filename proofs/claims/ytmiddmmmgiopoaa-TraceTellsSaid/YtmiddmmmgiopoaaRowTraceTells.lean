/- TraceTells returns true for any events, numbers, and one event more; nothing of the old memory is turned. No condition. -/
import Derived.Test.YtmiddmmmgiopoaaArg25
import Derived.Test.YtmiddmmmgiopoaaLaw25Tells
namespace Go.Proofs.Ytmiddmmmgiopoaa.traceTells
open Go.ChangeShapes Go.WideShapes Go.ChangeAt Go.RowKit Go.Bs
set_option linter.unusedVariables false
theorem args_cons {P : Program} {W : World} {t : TypeId} {ts : List TypeId} {vs : List Value} (h : Args P W (t :: ts) vs) : ∃ v vs', vs = v :: vs' ∧ ArgV P W t v ∧ Args P W ts vs' := by
  cases vs with
  | nil => exact h.elim
  | cons v vs => exact ⟨v, vs, rfl, h.1, h.2⟩
theorem args_nil {P : Program} {W : World} {vs : List Value} (h : Args P W [] vs) : vs = [] := by
  cases vs with
  | nil => rfl
  | cons v vs => exact h.elim
theorem walk (W : World) (vs : List Value) (h : Args Try.prog W [22, 3, 3, 3, 3, 3, 37] vs) :
    Calls Try.prog 7 vs.toArray W fun e w' => e = .returned (.bool true) ∧ Below W.heap.size W w' := by
  obtain ⟨v0, vs, rfl, h0, h⟩ := args_cons h
  obtain ⟨v1, vs, rfl, h1, h⟩ := args_cons h
  obtain ⟨v2, vs, rfl, h2, h⟩ := args_cons h
  obtain ⟨v3, vs, rfl, h3, h⟩ := args_cons h
  obtain ⟨v4, vs, rfl, h4, h⟩ := args_cons h
  obtain ⟨v5, vs, rfl, h5, h⟩ := args_cons h
  obtain ⟨v6, vs, rfl, h6, h⟩ := args_cons h
  obtain rfl := args_nil h
  obtain ⟨l, r1, r2⟩ := argv_events h0
  obtain ⟨q, rfl, w1⟩ := argv_int Try.underlying3 h1
  obtain ⟨n, rfl, w2⟩ := argv_int Try.underlying3 h2
  obtain ⟨w, rfl, w3⟩ := argv_int Try.underlying3 h3
  obtain ⟨i, rfl, w4⟩ := argv_int Try.underlying3 h4
  obtain ⟨k, rfl, w5⟩ := argv_int Try.underlying3 h5
  obtain ⟨x, rfl, r3, _⟩ := argv_event h6
  exact Ct.calls ((traceTells_spec [Base W] W v0 l q n w i k x (i64_bounds w2) (i64_bounds w3) (i64_bounds w4) (i64_bounds w1) (i64_bounds w5) r1 r2 r3).mono fun v L' ⟨h1, h2⟩ => ⟨h1, [], h2.symm⟩)
theorem own : ownKnob Try.prog.godebug = none := by kernel_rfl
set_option maxRecDepth 100000 in
theorem lifted (os : Os) (started : os.Started) (H : Type) (enc : TypeId × Value → H) :
    ReturnsInHanded {} Try.checked os 7 .any (Rows.traceTellsSpec.pre6 enc Try.prog Try.f7 Rows.traceTellsRow.domain false) (Rows.traceTellsSpec.post enc Try.prog Try.f7 false true false false) :=
  row_lifted (C := Try.checked) (fn := Try.f7) own started (by kernel_rfl) Try.func7
    (ChangeSpec.witness6 (enc := enc) (C := Try.checked) false ⟨#[], #[.slice none 0 0, .int .i64 0, .int .i64 0, .int .i64 0, .int .i64 0, .int .i64 0, .agg #[.int .i64 0, .int .i64 0, .int .i64 0, .slice none 0 0]], []⟩ 8 (by kernel_rfl) (by kernel_rfl) (by kernel_rfl) (by kernel_rfl))
    rfl rfl (fun ds h => by
      rw [Try.params7] at h
      match ds, h with
      | [_, _, _, _, _, _, _], _ => rfl)
    rfl Try.underlying4 (by kernel_rfl) (by decide +kernel) (fun W vs h => walk W vs (by rw [Try.params7] at h; exact h))

theorem over : Rows.traceTellsRow.holds Try.pinned (OpenSpec.ofChange Rows.traceTellsSpec) :=
  OpenClaim.holds_of_wide 7 Try.f7 rfl rfl rfl rfl rfl rfl rfl ⟨rfl, rfl, rfl, rfl, rfl⟩ rfl rfl rfl rfl rfl (by kernel_rfl) Try.func7 (by kernel_rfl)
    (of_decide_eq_true (by kernel_rfl)) (by unfold Func.isWrapper; first | (rw [if_pos (by decide +kernel)]; kernel_rfl) | (rw [if_neg (by decide +kernel)]; exact ⟨rfl, rfl⟩))
    (fun os started H enc _ => lifted os started H enc)
theorem proved : Rows.TraceTellsSaid := over
#print axioms proved
end Go.Proofs.Ytmiddmmmgiopoaa.traceTells
