/- JournalAgain returns true for any texts and any signs; nothing of the old memory is turned. No condition. -/
import Derived.Test.YtamjkmnhgajlcaaArgT
import Derived.Test.YtamjkmnhgajlcaaLaw13Again
namespace Go.Proofs.Ytamjkmnhgajlcaa.journalAgain
open Go.ChangeShapes Go.WideShapes Go.ChangeAt Go.RowKit Go.Bs
set_option linter.unusedVariables false
theorem argv_bools {W : World} {v : Value} (h : ArgV Try.prog W 42 v) : ∃ l : List Bool, RdSl [Base W] 1 v l.length (l.map Value.bool) := by
  obtain ⟨v', css, h0, h1, h2, h3⟩ := arg_slice (n := 1) Try.underlying42 (by kernel_rfl) (by omega) (argv_slice Try.underlying42 h)
  cases h0
  obtain ⟨l, rfl, h4⟩ := lift_list (α := Bool) (f := fun b => [Value.bool b]) (ok := fun _ => True) (css := css) fun c hc => by
    obtain ⟨b, h5⟩ := arg_bool Try.underlying4 (h3 c hc).2
    exact ⟨b, h5, trivial⟩
  rw [flatten_one] at h1
  simp only [List.length_map] at h1
  exact ⟨l, h1⟩
theorem walk (W : World) (vs : List Value) (h : Args Try.prog W [24, 42] vs) :
    Calls Try.prog 6 vs.toArray W fun e w' => e = .returned (.bool true) ∧ Below W.heap.size W w' := by
  match vs, h with
  | [v0, v1], ⟨h0, h1, _⟩ =>
    obtain ⟨l, r1, r2, _, _⟩ := argv_txts h0
    obtain ⟨bs, s1⟩ := argv_bools h1
    exact Ct.calls ((journalAgain_spec [Base W] W v0 v1 l bs r1 r2 s1).mono fun v L' ⟨h1, h2⟩ => ⟨h1, [], h2.symm⟩)
theorem own : ownKnob Try.prog.godebug = none := by kernel_rfl
set_option maxRecDepth 100000 in
theorem lifted (os : Os) (started : os.Started) (H : Type) (enc : TypeId × Value → H) :
    ReturnsInHanded {} Try.checked os 6 .any (Rows.journalAgainSpec.pre6 enc Try.prog Try.f6 Rows.journalAgainRow.domain false) (Rows.journalAgainSpec.post enc Try.prog Try.f6 false true false false) :=
  row_lifted (C := Try.checked) (fn := Try.f6) own started (by kernel_rfl) Try.func6
    (ChangeSpec.witness6 (enc := enc) (C := Try.checked) false ⟨#[], #[.slice none 0 0, .slice none 0 0], []⟩ 8 (by kernel_rfl) (by kernel_rfl) (by kernel_rfl) (by kernel_rfl))
    rfl rfl (fun ds h => by
      rw [Try.params6] at h
      match ds, h with
      | [_, _], _ => rfl)
    rfl Try.underlying4 (by kernel_rfl) (by decide +kernel) (fun W vs h => walk W vs (by rw [Try.params6] at h; exact h))

theorem over : Rows.journalAgainRow.holds Try.pinned (OpenSpec.ofChange Rows.journalAgainSpec) :=
  OpenClaim.holds_of_wide 6 Try.f6 rfl rfl rfl rfl rfl rfl rfl ⟨rfl, rfl, rfl, rfl, rfl⟩ rfl rfl rfl rfl rfl (by kernel_rfl) Try.func6 (by kernel_rfl)
    (of_decide_eq_true (by kernel_rfl)) (by unfold Func.isWrapper; first | (rw [if_pos (by decide +kernel)]; kernel_rfl) | (rw [if_neg (by decide +kernel)]; exact ⟨rfl, rfl⟩))
    (fun os started H enc _ => lifted os started H enc)
theorem proved : Rows.JournalAgainSaid := over
#print axioms proved
end Go.Proofs.Ytamjkmnhgajlcaa.journalAgain
