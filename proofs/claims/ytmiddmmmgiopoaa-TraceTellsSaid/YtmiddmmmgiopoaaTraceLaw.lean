/- what holds of the first bad place of a trace: plain laws. -/
import Derived.Test.YtmiddmmmgiopoaaTraceM
namespace Go.Proofs
set_option linter.unusedVariables false
/-- All of a trace may be. -/
def okP (q : Int) (l : List Ev) : Prop := ∀ i (h : i < l.length), mayP (l.take i) (l[i]'h) q = 0
theorem from_cases (q : Int) (l : List Ev) : ∀ n i : Nat, n = l.length - i → (fromP q l i n = (-1, 0) ∧ ∀ j (h : j < l.length), i ≤ j → mayP (l.take j) (l[j]'h) q = 0) ∨
    ∃ j, ∃ h : j < l.length, i ≤ j ∧ fromP q l i n = ((j : Int), mayP (l.take j) (l[j]'h) q) ∧ mayP (l.take j) (l[j]'h) q ≠ 0 ∧ ∀ k (h : k < l.length), i ≤ k → k < j → mayP (l.take k) (l[k]'h) q = 0
  | 0, i, h => .inl ⟨rfl, fun j hj hi => by omega⟩
  | n + 1, i, h => by
    have hi : i < l.length := by omega
    have hs := fromP_step (q := q) hi
    rw [← h, show l.length - (i + 1) = n by omega] at hs
    by_cases hw : mayP (l.take i) (l[i]'hi) q = 0
    · rw [if_neg (fun x => x hw)] at hs
      rw [hs]
      rcases from_cases q l n (i + 1) (by omega) with ⟨h1, h2⟩ | ⟨j, hj, h1, h2, h3, h4⟩
      · refine .inl ⟨h1, fun j hj hij => ?_⟩
        rcases Nat.eq_or_lt_of_le hij with rfl | h5
        · exact hw
        · exact h2 j hj h5
      · refine .inr ⟨j, hj, by omega, h2, h3, fun k hk hik hkj => ?_⟩
        rcases Nat.eq_or_lt_of_le hik with rfl | h5
        · exact hw
        · exact h4 k hk h5 hkj
    · rw [if_pos hw] at hs
      exact .inr ⟨i, hi, Nat.le_refl _, hs, hw, fun k hk hik hki => by omega⟩
theorem check_cases (q : Int) (l : List Ev) : (checkP q l = (-1, 0) ∧ okP q l) ∨
    ∃ j, ∃ h : j < l.length, checkP q l = ((j : Int), mayP (l.take j) (l[j]'h) q) ∧ mayP (l.take j) (l[j]'h) q ≠ 0 ∧ ∀ k (h : k < l.length), k < j → mayP (l.take k) (l[k]'h) q = 0 := by
  rcases from_cases q l l.length 0 (by omega) with ⟨h1, h2⟩ | ⟨j, hj, _, h2, h3, h4⟩
  · exact .inl ⟨h1, fun i h => h2 i h (Nat.zero_le _)⟩
  · exact .inr ⟨j, hj, h2, h3, fun k hk hkj => h4 k hk (Nat.zero_le _) hkj⟩
theorem check_ok {q : Int} {l : List Ev} : (checkP q l).1 = -1 ↔ okP q l := by
  rcases check_cases q l with ⟨h1, h2⟩ | ⟨j, hj, h1, h2, h3⟩
  · rw [h1]; exact ⟨fun _ => h2, fun _ => rfl⟩
  · rw [h1]
    exact ⟨fun h => by simp only at h; omega, fun h => absurd (h j hj) h2⟩
theorem may_bounds (l : List Ev) (x : Ev) (q : Int) : 0 ≤ mayP l x q ∧ mayP l x q ≤ 10 := by
  unfold mayP loggedP signedP cosignedP installedP
  repeat' split
  all_goals omega
/-- A beginning of a trace: the same, as long as the bad place is there. -/
theorem check_take (q : Int) (l : List Ev) (k : Nat) (hk : k ≤ l.length) :
    (((checkP q l).1 = -1 ∨ (k : Int) ≤ (checkP q l).1) → checkP q (l.take k) = (-1, 0)) ∧ (¬ ((checkP q l).1 = -1 ∨ (k : Int) ≤ (checkP q l).1) → checkP q (l.take k) = checkP q l ∧ 1 ≤ (checkP q l).2 ∧ (checkP q l).2 ≤ 10) := by
  have hlen : (l.take k).length = k := by rw [List.length_take]; omega
  have hsame : ∀ j (h : j < k), mayP ((l.take k).take j) ((l.take k)[j]'(by omega)) q = mayP (l.take j) (l[j]'(by omega)) q := fun j h => by
    rw [List.take_take, Nat.min_eq_left (by omega), List.getElem_take]
  rcases check_cases q l with ⟨h1, h2⟩ | ⟨j, hj, h1, h2, h3⟩
  · rw [h1]
    refine ⟨fun _ => ?_, fun h => absurd (.inl rfl) h⟩
    rcases check_cases q (l.take k) with ⟨g1, _⟩ | ⟨i, hi, g1, g2, g3⟩
    · exact g1
    · exact absurd (by rw [hsame i (by omega)]; exact h2 i (by omega)) g2
  · rw [h1]
    refine ⟨fun h => ?_, fun h => ?_⟩
    · have hkj : k ≤ j := by simp only at h; omega
      rcases check_cases q (l.take k) with ⟨g1, _⟩ | ⟨i, hi, g1, g2, g3⟩
      · exact g1
      · exact absurd (by rw [hsame i (by omega)]; exact h3 i (by omega) (by omega)) g2
    · have hkj : j < k := by simp only at h; omega
      have hb := may_bounds (l.take j) (l[j]'hj) q
      refine ⟨?_, by simp only; omega, hb.2⟩
      rcases check_cases q (l.take k) with ⟨g1, g2⟩ | ⟨i, hi, g1, g2, g3⟩
      · exact absurd (by rw [← hsame j hkj]; exact g2 j (by omega)) h2
      · rcases Nat.lt_trichotomy i j with h4 | h4 | h4
        · exact absurd (by rw [hsame i (by omega)]; exact h3 i (by omega) h4) g2
        · subst h4
          rw [g1, hsame i hkj]
        · exact absurd (by rw [← hsame j hkj]; exact g3 j (by omega) h4) h2
theorem may_mono {l : List Ev} {x : Ev} {q p : Int} (h : p ≤ q) (hq : mayP l x q = 0) : mayP l x p = 0 := by
  have hpr : ∀ leaf, provedP l leaf q = true → provedP l leaf p = true := fun leaf hh => by
    unfold provedP at hh ⊢
    rw [Bool.or_eq_true] at hh ⊢
    rcases hh with hh | hh
    · exact .inl (by simp only [decide_eq_true_eq] at hh ⊢; omega)
    · refine .inr ?_
      rw [List.any_eq_true] at hh ⊢
      obtain ⟨y, hy, h1⟩ := hh
      refine ⟨y, hy, ?_⟩
      simp only [decide_eq_true_eq] at h1 ⊢
      exact ⟨h1.1, h1.2.1, by omega⟩
  have hnew : newP l x q = true → newP l x p = true := fun hh => by
    unfold newP at hh ⊢
    rw [List.any_eq_true] at hh ⊢
    obtain ⟨y, hy, h1⟩ := hh
    refine ⟨y, hy, ?_⟩
    simp only [decide_eq_true_eq] at h1 ⊢
    exact ⟨h1.1, h1.2.1, hpr _ h1.2.2⟩
  unfold mayP installedP at hq ⊢
  by_cases h5 : x.kind = 5
  · simp only [h5] at hq ⊢
    by_cases ho : oldP l x = true
    · simp [ho] at hq
    · by_cases hn : newP l x q = true
      · simp [ho, hnew hn]
      · simp [ho, hn] at hq
  · simp only [h5, if_false] at hq ⊢
    exact hq
theorem ok_mono {l : List Ev} {q p : Int} (h : p ≤ q) (hq : okP q l) : okP p l := fun i hi => may_mono h (hq i hi)
theorem ok_pre {l m : List Ev} {q : Int} (h : okP q (l ++ m)) : okP q l := fun i hi => by
  have := h i (by rw [List.length_append]; omega)
  rw [List.take_append_of_le_length (by omega), List.getElem_append_left hi] at this
  exact this
end Go.Proofs
