/- records as they lie, opened: plain laws. -/
import Derived.Test.YtnifiamfdkdkkaaDisk0
namespace Go.Proofs
set_option linter.unusedVariables false
open Go.Bs
theorem cpl_cpl {n : Nat} (h : n < 4294967296) : n = cpl (cpl n) := by unfold cpl; omega
theorem rec_heads (m r : List UInt8) (hm : m.length ≤ 65535) : hd1 (recP m ++ r) = m.length ∧ hd2 (recP m ++ r) = cpl m.length ∧ (recP m ++ r).drop 8 = m ++ r := by
  have e1 : (recP m ++ r) = be m.length 4 ++ (be (cpl m.length) 4 ++ (m ++ r)) := by simp [recP]
  have l1 : (be m.length 4).length = 4 := be_length _ _
  have l2 : (be (cpl m.length) 4).length = 4 := be_length _ _
  refine ⟨?_, ?_, ?_⟩
  · unfold hd1
    rw [e1, List.take_append_of_le_length (by omega), List.take_of_length_le (by omega)]
    exact numOf_be4 _ (by omega)
  · unfold hd2
    rw [e1, List.drop_append_of_le_length (by omega), List.drop_of_length_le (by omega), List.nil_append, List.take_append_of_le_length (by omega), List.take_of_length_le (by omega)]
    exact numOf_be4 _ (cpl_lt _)
  · have d : ∀ (x y : List UInt8), x.length = 4 → (x ++ y).drop 4 = y := fun x y h => by rw [List.drop_append_of_le_length (by omega), List.drop_of_length_le (by omega), List.nil_append]
    rw [e1, show 8 = 4 + 4 from rfl, ← List.drop_drop, d _ _ l1, d _ _ l2]
theorem openP_rec (m r : List UInt8) (hm : m.length ≤ 65535) : openP (recP m ++ r) = (m :: (openP r).1, 8 + m.length + (openP r).2.1, (openP r).2.2) := by
  obtain ⟨h1, h2, h3⟩ := rec_heads m r hm
  have hl : (recP m ++ r).length = m.length + 8 + r.length := by rw [List.length_append, recP_length]
  have hg : good13 (recP m ++ r) := by
    refine ⟨?_, ?_⟩
    · rw [h1, h2]; exact cpl_cpl (by omega)
    · rw [h1]; exact hm
  have h4 : (recP m ++ r).drop (8 + m.length) = r := by
    rw [← List.drop_drop, h3, List.drop_append_of_le_length (Nat.le_refl _), List.drop_of_length_le (Nat.le_refl _), List.nil_append]
  rw [openP_next (by omega) hg (by rw [h1]; omega), h1, h3, h4, List.take_append_of_le_length (Nat.le_refl _), List.take_of_length_le (Nat.le_refl _)]
theorem layP_app (a b : List (List UInt8)) : layP (a ++ b) = layP a ++ layP b := by simp [layP]
theorem openP_lay (l : List (List UInt8)) (r : List UInt8) (hl : ∀ m ∈ l, m.length ≤ 65535) : openP (layP l ++ r) = (l ++ (openP r).1, (layP l).length + (openP r).2.1, (openP r).2.2) := by
  induction l with
  | nil => simp [layP]
  | cons m l ih =>
    have e1 : layP (m :: l) = recP m ++ layP l := rfl
    rw [e1, List.append_assoc, openP_rec m _ (hl m (List.mem_cons_self ..)), ih fun x hx => hl x (List.mem_cons_of_mem _ hx)]
    simp only [List.cons_append, List.length_append, recP_length]
    refine Prod.ext rfl (Prod.ext ?_ rfl)
    dsimp only
    omega
theorem openP_nil : openP [] = ([], 0, true) := openP_short (by simp)
theorem openP_all (l : List (List UInt8)) (hl : ∀ m ∈ l, m.length ≤ 65535) : openP (layP l) = (l, (layP l).length, true) := by
  have := openP_lay l [] hl
  rw [List.append_nil, openP_nil] at this
  simpa using this
/-- A record that was torn. -/
theorem openP_tornRec (m : List UInt8) (k : Nat) (hm : m.length ≤ 65535) (hk : k < m.length + 8) : openP ((recP m).take k) = ([], 0, true) := by
  have hl : ((recP m).take k).length = k := by rw [List.length_take, recP_length]; omega
  by_cases h8 : k < 8
  · exact openP_short (by omega)
  · obtain ⟨h1, h2, h3⟩ := rec_heads m [] hm
    rw [List.append_nil] at h1 h2 h3
    have g1 : hd1 ((recP m).take k) = m.length := by
      unfold hd1 at h1 ⊢
      rw [List.take_take, Nat.min_eq_left (by omega)]
      exact h1
    have g2 : hd2 ((recP m).take k) = cpl m.length := by
      unfold hd2 at h2 ⊢
      rw [List.drop_take, List.take_take, Nat.min_eq_left (by omega)]
      exact h2
    refine openP_torn (by omega) ⟨?_, ?_⟩ (by rw [g1]; omega)
    · rw [g1, g2]; exact cpl_cpl (by omega)
    · rw [g1]; exact hm
theorem openP_torn2 (l : List (List UInt8)) (m : List UInt8) (k : Nat) (hl : ∀ m ∈ l, m.length ≤ 65535) (hm : m.length ≤ 65535) (hk : k < m.length + 8) : openP (layP l ++ (recP m).take k) = (l, (layP l).length, true) := by
  rw [openP_lay l _ hl, openP_tornRec m k hm hk]
  simp
/-- A disk that is neither armed nor down. -/
def diskS (b : List UInt8) (sy : Nat) : DSt := ⟨b, sy, 1048576, 0, false⟩
theorem diskS_ok {b : List UInt8} {sy : Nat} (h : b.length ≤ 1048576) (h2 : sy ≤ b.length) : (diskS b sy).ok := ⟨h, Nat.le_refl _, h2, Nat.zero_le _⟩
theorem put_plain {b m : List UInt8} {sy : Nat} (h : b.length + m.length + 8 ≤ 1048576) : (diskS b sy).appE (recP m) = 0 ∧ (diskS b sy).app (recP m) = diskS (b ++ recP m) sy := by
  have hr := recP_length m
  obtain ⟨h1, h2⟩ := DSt.app_plain (b := b) (m := recP m) (sy := sy) (li := 1048576) (by omega)
  exact ⟨h2, h1⟩
theorem syn_plain (b : List UInt8) (sy : Nat) : (diskS b sy).synE = 0 ∧ (diskS b sy).syn = disk0 b := by
  simp [DSt.synE, DSt.syn, DSt.pow, diskS, disk0]
theorem add_plain {b m : List UInt8} {sy : Nat} (h : b.length + m.length + 8 ≤ 1048576) : addE (diskS b sy) m = 0 ∧ addS (diskS b sy) m = disk0 (b ++ recP m) ∧ ∀ k, addK (diskS b sy) m k = k + 1 := by
  obtain ⟨h1, h2⟩ := put_plain (sy := sy) h
  obtain ⟨h3, h4⟩ := syn_plain (b ++ recP m) sy
  refine ⟨?_, ?_, fun k => ?_⟩
  · unfold addE; rw [if_pos h1, h2, h3]
  · unfold addS; rw [if_pos h1, h2, h4]
  · unfold addK; rw [if_pos h1]
theorem crash_plain (b : List UInt8) (sy : Nat) (n : Int) (h : sy ≤ b.length) : ∃ k, sy ≤ k ∧ k ≤ b.length ∧ (diskS b sy).crash n = disk0 (b.take k) ∧ (n ≤ 0 → k = sy) := by
  refine ⟨sy + (diskS b sy).kept n, by omega, ?_, ?_, ?_⟩
  · simp only [DSt.kept, diskS]; omega
  · have : sy + (diskS b sy).kept n ≤ b.length := by simp only [DSt.kept, diskS]; omega
    unfold DSt.crash disk0
    rw [List.length_take]
    simp only [diskS] at this ⊢
    rw [Nat.min_eq_left this]
  · intro hn
    simp only [DSt.kept, diskS]; omega
end Go.Proofs
