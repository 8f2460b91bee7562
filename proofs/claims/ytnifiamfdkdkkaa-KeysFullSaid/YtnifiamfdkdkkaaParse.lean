/- what bytes are opened as: plain law. -/
import Derived.Test.YtnifiamfdkdkkaaJournal
namespace Go.Proofs
set_option linter.unusedVariables false
open Go.Bs
def hd1 (b : List UInt8) : Nat := numOf (b.take 4)
def hd2 (b : List UInt8) : Nat := numOf ((b.drop 4).take 4)
def good13 (b : List UInt8) : Prop := hd1 b = cpl (hd2 b) ∧ hd1 b ≤ 65535
instance (b : List UInt8) : Decidable (good13 b) := inferInstanceAs (Decidable (_ ∧ _))
def openP (b : List UInt8) : List (List UInt8) × Nat × Bool :=
  if h : b.length < 8 then ([], 0, true)
  else if good13 b then
    (if b.length - 8 < hd1 b then ([], 0, true)
    else ((b.drop 8).take (hd1 b) :: (openP (b.drop (8 + hd1 b))).1, 8 + hd1 b + (openP (b.drop (8 + hd1 b))).2.1, (openP (b.drop (8 + hd1 b))).2.2))
  else ([], 0, false)
termination_by b.length
decreasing_by all_goals (rw [List.length_drop]; omega)
theorem openP_short {b : List UInt8} (h : b.length < 8) : openP b = ([], 0, true) := by rw [openP, dif_pos h]
theorem openP_bad {b : List UInt8} (h : ¬ b.length < 8) (h2 : ¬ good13 b) : openP b = ([], 0, false) := by rw [openP, dif_neg h, if_neg h2]
theorem openP_torn {b : List UInt8} (h : ¬ b.length < 8) (h2 : good13 b) (h3 : b.length - 8 < hd1 b) : openP b = ([], 0, true) := by rw [openP, dif_neg h, if_pos h2, if_pos h3]
theorem openP_next {b : List UInt8} (h : ¬ b.length < 8) (h2 : good13 b) (h3 : ¬ b.length - 8 < hd1 b) : openP b = ((b.drop 8).take (hd1 b) :: (openP (b.drop (8 + hd1 b))).1, 8 + hd1 b + (openP (b.drop (8 + hd1 b))).2.1, (openP (b.drop (8 + hd1 b))).2.2) := by
  rw [openP, dif_neg h, if_pos h2, if_neg h3]
theorem num1 {b : List UInt8} (h : ¬ b.length < 8) : RSt.num ⟨b, false⟩ 4 = hd1 b ∧ RSt.next ⟨b, false⟩ 4 = ⟨b.drop 4, false⟩ ∧ RSt.num ⟨b.drop 4, false⟩ 4 = hd2 b ∧ RSt.next ⟨b.drop 4, false⟩ 4 = ⟨b.drop 8, false⟩ := by
  have f1 : RSt.fits ⟨b, false⟩ 4 = true := by simp [RSt.fits]; omega
  have f2 : RSt.fits ⟨b.drop 4, false⟩ 4 = true := by simp [RSt.fits]; omega
  refine ⟨?_, ?_, ?_, ?_⟩
  · unfold RSt.num RSt.take hd1; rw [if_pos f1]; rfl
  · unfold RSt.next; rw [if_pos f1]; rfl
  · unfold RSt.num RSt.take hd2; rw [if_pos f2]; rfl
  · unfold RSt.next; rw [if_pos f2, List.drop_drop]; rfl
theorem raw1 {b : List UInt8} {n : Nat} (h : n ≤ b.length) : RSt.take ⟨b, false⟩ (n : Int) = b.take n ∧ RSt.next ⟨b, false⟩ (n : Int) = ⟨b.drop n, false⟩ := by
  have f1 : RSt.fits ⟨b, false⟩ (n : Int) = true := by simp [RSt.fits]; omega
  refine ⟨?_, ?_⟩
  · unfold RSt.take; rw [if_pos f1]; rfl
  · unfold RSt.next; rw [if_pos f1]; rfl
/-- What is open when so many bytes have been read. -/
def OpenAt (b : List UInt8) (k : Nat) (out : List (List UInt8)) : Prop := k ≤ b.length ∧ out.length ≤ k ∧ openP b = (out ++ (openP (b.drop k)).1, k + (openP (b.drop k)).2.1, (openP (b.drop k)).2.2)
theorem openAt_start (b : List UInt8) : OpenAt b 0 [] := ⟨Nat.zero_le _, Nat.le_refl _, by simp⟩
theorem openAt_end {b : List UInt8} {k : Nat} {out : List (List UInt8)} {ok : Bool} (h : OpenAt b k out) (h2 : openP (b.drop k) = ([], 0, ok)) : openP b = (out, k, ok) := by rw [h.2.2, h2]; simp
theorem openAt_step {b : List UInt8} {k : Nat} {out : List (List UInt8)} (h : OpenAt b k out) (h1 : ¬ (b.drop k).length < 8) (h2 : good13 (b.drop k)) (h3 : ¬ (b.drop k).length - 8 < hd1 (b.drop k)) :
    OpenAt b (k + (8 + hd1 (b.drop k))) (out ++ [((b.drop k).drop 8).take (hd1 (b.drop k))]) := by
  obtain ⟨a1, a2, a3⟩ := h
  have hn := openP_next h1 h2 h3
  rw [List.length_drop] at h1 h3
  refine ⟨by omega, by simp; omega, ?_⟩
  rw [a3, hn, show b.drop (k + (8 + hd1 (b.drop k))) = (b.drop k).drop (8 + hd1 (b.drop k)) from List.drop_drop.symm]
  simp only [List.append_assoc, List.singleton_append, Nat.add_assoc]
theorem openP_le (b : List UInt8) : (openP b).2.1 ≤ b.length := by
  generalize hn : b.length = n
  induction n using Nat.strongRecOn generalizing b with
  | _ n ih =>
    by_cases h : b.length < 8
    · rw [openP_short h]; exact Nat.zero_le _
    · by_cases h2 : good13 b
      · by_cases h3 : b.length - 8 < hd1 b
        · rw [openP_torn h h2 h3]; exact Nat.zero_le _
        · rw [openP_next h h2 h3]
          have := ih (b.drop (8 + hd1 b)).length (by rw [List.length_drop]; omega) (b.drop (8 + hd1 b)) rfl
          rw [List.length_drop] at this
          show 8 + hd1 b + _ ≤ n
          omega
      · rw [openP_bad h h2]; exact Nat.zero_le _
theorem openP_cnt (b : List UInt8) : 8 * (openP b).1.length ≤ b.length := by
  generalize hn : b.length = n
  induction n using Nat.strongRecOn generalizing b with
  | _ n ih =>
    by_cases h : b.length < 8
    · rw [openP_short h]; exact Nat.zero_le _
    · by_cases h2 : good13 b
      · by_cases h3 : b.length - 8 < hd1 b
        · rw [openP_torn h h2 h3]; exact Nat.zero_le _
        · rw [openP_next h h2 h3]
          have := ih (b.drop (8 + hd1 b)).length (by rw [List.length_drop]; omega) (b.drop (8 + hd1 b)) rfl
          rw [List.length_drop] at this
          rw [List.length_cons]
          omega
      · rw [openP_bad h h2]; exact Nat.zero_le _
end Go.Proofs
