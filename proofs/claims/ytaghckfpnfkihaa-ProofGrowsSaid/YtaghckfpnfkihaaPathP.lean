/- paths of leaves, in plain terms. -/
import Derived.Test.YtaghckfpnfkihaaTree
namespace Go.Bs
/-- A leaf's path. -/
def pathP (l : List (List UInt8)) (i : Nat) : List (List UInt8) :=
  if h : 2 ≤ l.length then
    if i < splitP l.length then pathP (l.take (splitP l.length)) i ++ [rootP (l.drop (splitP l.length))]
    else pathP (l.drop (splitP l.length)) (i - splitP l.length) ++ [rootP (l.take (splitP l.length))]
  else []
termination_by l.length
decreasing_by
  · have := splitP_spec h; rw [List.length_take]; omega
  · have := splitP_spec h; rw [List.length_drop]; omega
/-- How many hashes it has. -/
def longP (n i : Nat) : Nat :=
  if h : 2 ≤ n then
    if i < splitP n then longP (splitP n) i + 1 else longP (n - splitP n) (i - splitP n) + 1
  else 0
termination_by n
decreasing_by
  · have := splitP_spec h; omega
  · have := splitP_spec h; omega
/-- The last of a path. -/
def lastP (p : List (List UInt8)) : List UInt8 := p.getLast?.getD []
/-- What a path of the right length leads to. -/
def leadP (n i : Nat) (p : List (List UInt8)) (x : List UInt8) : List UInt8 :=
  if h : 2 ≤ n then
    if i < splitP n then nodeP (leadP (splitP n) i p.dropLast x) (lastP p) else nodeP (lastP p) (leadP (n - splitP n) (i - splitP n) p.dropLast x)
  else x
termination_by n
decreasing_by
  · have := splitP_spec h; omega
  · have := splitP_spec h; omega
theorem pathP_none {l : List (List UInt8)} {i : Nat} (h : ¬ 2 ≤ l.length) : pathP l i = [] := by rw [pathP, dif_neg h]
theorem pathP_lo {l : List (List UInt8)} {i : Nat} (h : 2 ≤ l.length) (hi : i < splitP l.length) : pathP l i = pathP (l.take (splitP l.length)) i ++ [rootP (l.drop (splitP l.length))] := by rw [pathP, dif_pos h, if_pos hi]
theorem pathP_hi {l : List (List UInt8)} {i : Nat} (h : 2 ≤ l.length) (hi : ¬ i < splitP l.length) : pathP l i = pathP (l.drop (splitP l.length)) (i - splitP l.length) ++ [rootP (l.take (splitP l.length))] := by rw [pathP, dif_pos h, if_neg hi]
theorem longP_none {n i : Nat} (h : ¬ 2 ≤ n) : longP n i = 0 := by rw [longP, dif_neg h]
theorem longP_lo {n i : Nat} (h : 2 ≤ n) (hi : i < splitP n) : longP n i = longP (splitP n) i + 1 := by rw [longP, dif_pos h, if_pos hi]
theorem longP_hi {n i : Nat} (h : 2 ≤ n) (hi : ¬ i < splitP n) : longP n i = longP (n - splitP n) (i - splitP n) + 1 := by rw [longP, dif_pos h, if_neg hi]
theorem leadP_none {n i : Nat} {p : List (List UInt8)} {x : List UInt8} (h : ¬ 2 ≤ n) : leadP n i p x = x := by rw [leadP, dif_neg h]
theorem leadP_lo {n i : Nat} {p : List (List UInt8)} {x : List UInt8} (h : 2 ≤ n) (hi : i < splitP n) : leadP n i p x = nodeP (leadP (splitP n) i p.dropLast x) (lastP p) := by rw [leadP, dif_pos h, if_pos hi]
theorem leadP_hi {n i : Nat} {p : List (List UInt8)} {x : List UInt8} (h : 2 ≤ n) (hi : ¬ i < splitP n) : leadP n i p x = nodeP (lastP p) (leadP (n - splitP n) (i - splitP n) p.dropLast x) := by rw [leadP, dif_pos h, if_neg hi]
theorem lastP_snoc (p : List (List UInt8)) (a : List UInt8) : lastP (p ++ [a]) = a := by simp [lastP]
theorem pathP_length : ∀ (n : Nat) (l : List (List UInt8)) (i : Nat), l.length = n → (pathP l i).length = longP l.length i := by
  intro n
  induction n using Nat.strongRecOn with
  | ind n ih =>
    intro l i hn
    by_cases h : 2 ≤ l.length
    · have hs := splitP_spec h
      by_cases hi : i < splitP l.length
      · have e1 : (l.take (splitP l.length)).length = splitP l.length := by rw [List.length_take]; omega
        rw [pathP_lo h hi, longP_lo h hi, List.length_append, List.length_singleton, ih _ (by omega) _ i e1, e1]
      · have e1 : (l.drop (splitP l.length)).length = l.length - splitP l.length := List.length_drop
        rw [pathP_hi h hi, longP_hi h hi, List.length_append, List.length_singleton, ih _ (by omega) _ _ e1, e1]
    · rw [pathP_none h, longP_none h]; rfl
/-- A leaf's path leads to the root, of any leaf there. -/
theorem leadP_path : ∀ (n : Nat) (l : List (List UInt8)) (i : Nat) (x : List UInt8), l.length = n → i < l.length → leadP l.length i (pathP l i) x = rootP (l.set i x) := by
  intro n
  induction n using Nat.strongRecOn with
  | ind n ih =>
    intro l i x hn hil
    by_cases h : 2 ≤ l.length
    · have hs := splitP_spec h
      have hrt := rootP_more (l := l.set i x) (by rw [List.length_set]; exact h)
      rw [List.length_set] at hrt
      by_cases hi : i < splitP l.length
      · have e1 : (l.take (splitP l.length)).length = splitP l.length := by rw [List.length_take]; omega
        have e2 := ih _ (by omega) (l.take (splitP l.length)) i x e1 (by omega)
        rw [e1] at e2
        rw [leadP_lo h hi, pathP_lo h hi, lastP_snoc, List.dropLast_concat, e2, hrt, List.take_set, List.drop_set_of_lt hi]
      · have e1 : (l.drop (splitP l.length)).length = l.length - splitP l.length := List.length_drop
        have e2 := ih _ (by omega) (l.drop (splitP l.length)) (i - splitP l.length) x e1 (by omega)
        rw [e1] at e2
        rw [leadP_hi h hi, pathP_hi h hi, lastP_snoc, List.dropLast_concat, e2, hrt, List.take_set_of_le (by omega), List.drop_set]
        rw [if_neg hi]
    · rw [leadP_none h]
      match l, h, hil with
      | [a], _, hil =>
        obtain rfl : i = 0 := by simp at hil; omega
        rw [List.set_cons_zero, rootP_one]
      | [], _, hil => simp at hil
      | _ :: _ :: _, h, _ => simp at h
theorem hashes_root {l : List (List UInt8)} (h : ∀ a ∈ l, a.length = 32) : (rootP l).length = 32 := by
  match l, h with
  | [], _ => rw [rootP_nil, sha_length]
  | [a], h => rw [rootP_one]; exact h a (List.mem_singleton.2 rfl)
  | a :: b :: r, _ => rw [rootP_more (by simp)]; exact tagP_length _ _
theorem pathP_hash : ∀ (n : Nat) (l : List (List UInt8)) (i : Nat), l.length = n → (∀ a ∈ l, a.length = 32) → ∀ a ∈ pathP l i, a.length = 32 := by
  intro n
  induction n using Nat.strongRecOn with
  | ind n ih =>
    intro l i hn hh a ha
    by_cases h : 2 ≤ l.length
    · have hs := splitP_spec h
      by_cases hi : i < splitP l.length
      · rw [pathP_lo h hi] at ha
        rcases List.mem_append.1 ha with q | q
        · exact ih _ (by rw [List.length_take]; omega) _ i rfl (fun b hb => hh b (List.mem_of_mem_take hb)) a q
        · rw [List.mem_singleton.1 q]; exact hashes_root fun b hb => hh b (List.mem_of_mem_drop hb)
      · rw [pathP_hi h hi] at ha
        rcases List.mem_append.1 ha with q | q
        · exact ih _ (by rw [List.length_drop]; omega) _ _ rfl (fun b hb => hh b (List.mem_of_mem_drop hb)) a q
        · rw [List.mem_singleton.1 q]; exact hashes_root fun b hb => hh b (List.mem_of_mem_take hb)
    · rw [pathP_none h] at ha; cases ha
theorem splitP_half {n t : Nat} (h : n ≤ 2 ^ (t + 1)) (h2 : 2 ≤ n) : splitP n ≤ 2 ^ t := by
  unfold splitP
  rw [if_neg (by omega)]
  refine Nat.pow_le_pow_right (by omega) ?_
  have : (n - 1).log2 < t + 1 := (Nat.log2_lt (by omega)).2 (by omega)
  omega
theorem splitP_whole (t : Nat) : splitP (2 ^ (t + 1)) = 2 ^ t := by
  have h0 := Nat.two_pow_pos t
  have h1 : 2 ^ (t + 1) = 2 * 2 ^ t := by rw [Nat.pow_succ, Nat.mul_comm]
  unfold splitP
  rw [if_neg (by omega)]
  congr 1
  rw [Nat.log2_eq_iff (by omega), h1]
  omega
theorem longP_le : ∀ (t n i : Nat), n ≤ 2 ^ t → longP n i ≤ t
  | 0, n, i, h => by rw [longP_none (by rw [Nat.pow_zero] at h; omega)]; exact Nat.le_refl _
  | t + 1, n, i, h => by
    by_cases h2 : 2 ≤ n
    · have hs := splitP_spec h2
      have hh := splitP_half h h2
      by_cases hi : i < splitP n
      · rw [longP_lo h2 hi]
        have := longP_le t _ i hh; omega
      · rw [longP_hi h2 hi]
        have := longP_le t (n - splitP n) (i - splitP n) (by omega); omega
    · rw [longP_none h2]; omega
theorem longP_whole : ∀ (t i : Nat), longP (2 ^ t) i = t
  | 0, i => by rw [longP_none (by rw [Nat.pow_zero]; omega)]
  | t + 1, i => by
    have h0 := Nat.two_pow_pos t
    have h1 : 2 ^ (t + 1) = 2 * 2 ^ t := by rw [Nat.pow_succ, Nat.mul_comm]
    have h2 : 2 ≤ 2 ^ (t + 1) := by omega
    have hs := splitP_whole t
    by_cases hi : i < splitP (2 ^ (t + 1))
    · rw [longP_lo h2 hi, hs, longP_whole t i]
    · rw [longP_hi h2 hi, hs, show 2 ^ (t + 1) - 2 ^ t = 2 ^ t by omega, longP_whole t]
end Go.Bs
