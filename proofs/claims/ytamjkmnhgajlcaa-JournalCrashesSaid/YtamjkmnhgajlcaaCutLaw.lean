/- records that were cut off at any place, opened: plain law. -/
import Derived.Test.YtamjkmnhgajlcaaLayLaw
namespace Go.Proofs
set_option linter.unusedVariables false
open Go.Bs
theorem openP_cut (l : List (List UInt8)) (hl : ∀ m ∈ l, m.length ≤ 65535) : ∀ k, k ≤ (layP l).length → ∃ n, n ≤ l.length ∧ openP ((layP l).take k) = (l.take n, (layP (l.take n)).length, true) ∧ (layP (l.take n)).length ≤ k ∧ ∀ j, j ≤ l.length → (layP (l.take j)).length ≤ k → j ≤ n := by
  induction l with
  | nil => exact fun k hk => ⟨0, Nat.le_refl _, by simp [layP, openP_nil], by simp [layP], fun j hj _ => hj⟩
  | cons m l ih =>
    intro k hk
    have e1 : layP (m :: l) = recP m ++ layP l := rfl
    have hr := recP_length m
    have hm := hl m (List.mem_cons_self ..)
    by_cases h : k < m.length + 8
    · refine ⟨0, Nat.zero_le _, ?_, by simp [layP], fun j hj h2 => ?_⟩
      · rw [e1, List.take_append_of_le_length (by omega), openP_tornRec m k hm h]
        rfl
      · cases j with
        | zero => exact Nat.le_refl _
        | succ j =>
          rw [List.take_succ_cons] at h2
          have e2 : layP (m :: l.take j) = recP m ++ layP (l.take j) := rfl
          rw [e2, List.length_append] at h2
          omega
    · rw [e1, List.length_append] at hk
      obtain ⟨n, h1, h2, h3, h4⟩ := ih (fun x hx => hl x (List.mem_cons_of_mem _ hx)) (k - (m.length + 8)) (by omega)
      have e3 : (layP (m :: l)).take k = recP m ++ (layP l).take (k - (m.length + 8)) := by
        rw [e1, List.take_append, List.take_of_length_le (by omega), hr]
      have e4 : layP ((m :: l).take (n + 1)) = recP m ++ layP (l.take n) := rfl
      refine ⟨n + 1, by simp; exact h1, ?_, ?_, fun j hj h5 => ?_⟩
      · rw [e3, openP_rec m _ hm, h2, e4, List.length_append, hr]
        refine Prod.ext rfl (Prod.ext ?_ rfl)
        show 8 + m.length + (layP (l.take n)).length = m.length + 8 + (layP (l.take n)).length
        omega
      · rw [e4, List.length_append, hr]; omega
      · cases j with
        | zero => exact Nat.zero_le _
        | succ j =>
          rw [List.take_succ_cons] at h5
          have e2 : layP (m :: l.take j) = recP m ++ layP (l.take j) := rfl
          rw [e2, List.length_append] at h5
          have := h4 j (by simpa using hj) (by omega)
          omega
theorem layP_take_len {l : List (List UInt8)} {n : Nat} : (layP l).take (layP (l.take n)).length = layP (l.take n) := by
  have h : layP l = layP (l.take n) ++ layP (l.drop n) := by rw [← layP_app, List.take_append_drop]
  rw [h, List.take_append_of_le_length (Nat.le_refl _), List.take_of_length_le (Nat.le_refl _)]
end Go.Proofs
