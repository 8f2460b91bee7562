/- ProofGrows returns true for any arguments; nothing of the old memory is turned. No condition. -/
import Derived.Test.YtaghckfpnfkihaaArgT
import Derived.Test.YtaghckfpnfkihaaLaw8Grows
namespace Go.Proofs.Ytaghckfpnfkihaa.proofGrows
open Go.ChangeShapes Go.WideShapes Go.ChangeAt Go.RowKit Go.Bs
set_option linter.unusedVariables false
theorem args_cons {P : Program} {W : World} {t : TypeId} {ts : List TypeId} {vs : List Value} (h : Args P W (t :: ts) vs) : ∃ v vs', vs = v :: vs' ∧ ArgV P W t v ∧ Args P W ts vs' := by
  cases vs with
  | nil => exact h.elim
  | cons v vs => exact ⟨v, vs, rfl, h.1, h.2⟩
theorem args_nil {P : Program} {W : World} {vs : List Value} (h : Args P W [] vs) : vs = [] := by
  cases vs with
  | nil => rfl
  | cons v vs => exact h.elim
theorem walk (W : World) (vs : List Value) (h : Args Try.prog W [3, 3, 3, 3, 5, 22, 3, 3, 23, 23] vs) :
    Calls Try.prog 6 vs.toArray W fun e w' => e = .returned (.bool true) ∧ Below W.heap.size W w' := by
  obtain ⟨v0, vs, rfl, h0, h⟩ := args_cons h
  obtain ⟨v1, vs, rfl, h1, h⟩ := args_cons h
  obtain ⟨v2, vs, rfl, h2, h⟩ := args_cons h
  obtain ⟨v3, vs, rfl, h3, h⟩ := args_cons h
  obtain ⟨v4, vs, rfl, h4, h⟩ := args_cons h
  obtain ⟨v5, vs, rfl, h5, h⟩ := args_cons h
  obtain ⟨v6, vs, rfl, h6, h⟩ := args_cons h
  obtain ⟨v7, vs, rfl, h7, h⟩ := args_cons h
  obtain ⟨v8, vs, rfl, h8, h⟩ := args_cons h
  obtain ⟨v9, vs, rfl, h9, h⟩ := args_cons h
  obtain rfl := args_nil h
  obtain ⟨a0, rfl, w0⟩ := argv_int Try.underlying3 h0
  obtain ⟨a1, rfl, w1⟩ := argv_int Try.underlying3 h1
  obtain ⟨a2, rfl, w2⟩ := argv_int Try.underlying3 h2
  obtain ⟨a3, rfl, w3⟩ := argv_int Try.underlying3 h3
  obtain ⟨a4, rfl, w4⟩ := argv_int Try.underlying5 h4
  obtain ⟨a5, r5, s5, _, _⟩ := argv_txts h5
  obtain ⟨a6, rfl, w6⟩ := argv_int Try.underlying3 h6
  obtain ⟨a7, rfl, w7⟩ := argv_int Try.underlying3 h7
  obtain ⟨a8, r8, _⟩ := argv_bytes h8
  obtain ⟨a9, r9, _⟩ := argv_bytes h9
  exact Ct.calls ((proofGrows_spec [Base W] W a0 a1 a2 a3 a4 v5 a5 a6 a7 v8 v9 a8 a9 (i64_bounds w0) (i64_bounds w1) (i64_bounds w3) (i64_bounds w6) (i64_bounds w7) r5 s5 r8 r9).mono fun v L' ⟨h1, h2⟩ => ⟨h1, [], h2.symm⟩)
theorem own : ownKnob Try.prog.godebug = none := by kernel_rfl
set_option maxRecDepth 100000 in
theorem lifted (os : Os) (started : os.Started) (H : Type) (enc : TypeId × Value → H) :
    ReturnsInHanded {} Try.checked os 6 .any (Rows.proofGrowsSpec.pre6 enc Try.prog Try.f6 Rows.proofGrowsRow.domain false) (Rows.proofGrowsSpec.post enc Try.prog Try.f6 false true false false) :=
  row_lifted (C := Try.checked) (fn := Try.f6) own started (by kernel_rfl) Try.func6
    (ChangeSpec.witness6 (enc := enc) (C := Try.checked) false ⟨#[], #[.int .i64 0, .int .i64 0, .int .i64 0, .int .i64 0, .int .u8 0, .slice none 0 0, .int .i64 0, .int .i64 0, .slice none 0 0, .slice none 0 0], []⟩ 8 (by kernel_rfl) (by kernel_rfl) (by kernel_rfl) (by kernel_rfl))
    rfl rfl (fun ds h => by
      rw [Try.params6] at h
      match ds, h with
      | [_, _, _, _, _, _, _, _, _, _], _ => rfl)
    rfl Try.underlying4 (by kernel_rfl) (by decide +kernel) (fun W vs h => walk W vs (by rw [Try.params6] at h; exact h))

theorem over : Rows.proofGrowsRow.holds Try.pinned (OpenSpec.ofChange Rows.proofGrowsSpec) :=
  OpenClaim.holds_of_wide 6 Try.f6 rfl rfl rfl rfl rfl rfl rfl ⟨rfl, rfl, rfl, rfl, rfl⟩ rfl rfl rfl rfl rfl (by kernel_rfl) Try.func6 (by kernel_rfl)
    (of_decide_eq_true (by kernel_rfl)) (by unfold Func.isWrapper; first | (rw [if_pos (by decide +kernel)]; kernel_rfl) | (rw [if_neg (by decide +kernel)]; exact ⟨rfl, rfl⟩))
    (fun os started H enc _ => lifted os started H enc)
theorem proved : Rows.ProofGrowsSaid := over
#print axioms proved
end Go.Proofs.Ytaghckfpnfkihaa.proofGrows
