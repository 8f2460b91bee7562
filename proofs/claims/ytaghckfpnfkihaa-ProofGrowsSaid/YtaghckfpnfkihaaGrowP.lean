/- growths, in plain terms. -/
import Derived.Test.YtaghckfpnfkihaaPathP
namespace Go.Bs
/-- A growth's path. -/
def subP (m : Nat) (l : List (List UInt8)) (w : Bool) : List (List UInt8) :=
  if m = l.length then (if w = true then [] else [rootP l])
  else if h : 2 ≤ l.length then
    if m ≤ splitP l.length then subP m (l.take (splitP l.length)) w ++ [rootP (l.drop (splitP l.length))]
    else subP (m - splitP l.length) (l.drop (splitP l.length)) false ++ [rootP (l.take (splitP l.length))]
  else []
termination_by l.length
decreasing_by
  · have := splitP_spec h; rw [List.length_take]; omega
  · have := splitP_spec h; rw [List.length_drop]; omega
/-- How many hashes it has. -/
def glenP (m n : Nat) (w : Bool) : Nat :=
  if m = n then (if w = true then 0 else 1)
  else if h : 2 ≤ n then
    if m ≤ splitP n then glenP m (splitP n) w + 1 else glenP (m - splitP n) (n - splitP n) false + 1
  else 0
termination_by n
decreasing_by
  · have := splitP_spec h; omega
  · have := splitP_spec h; omega
/-- What a path of the right length leads to. -/
def gleadP (m n : Nat) (w : Bool) (p : List (List UInt8)) (old : List UInt8) : List UInt8 × List UInt8 :=
  if m = n then (if w = true then (old, old) else (lastP p, lastP p))
  else if h : 2 ≤ n then
    if m ≤ splitP n then ((gleadP m (splitP n) w p.dropLast old).1, nodeP (gleadP m (splitP n) w p.dropLast old).2 (lastP p))
    else (nodeP (lastP p) (gleadP (m - splitP n) (n - splitP n) false p.dropLast old).1, nodeP (lastP p) (gleadP (m - splitP n) (n - splitP n) false p.dropLast old).2)
  else (old, old)
termination_by n
decreasing_by
  all_goals (have := splitP_spec h; omega)
section
variable {m n : Nat} {w : Bool} {l p : List (List UInt8)} {old : List UInt8}
theorem subP_all : subP l.length l true = [] := by rw [subP, if_pos rfl, if_pos rfl]
theorem subP_root : subP l.length l false = [rootP l] := by rw [subP, if_pos rfl]; rfl
theorem subP_lo (h1 : m ≠ l.length) (h : 2 ≤ l.length) (hm : m ≤ splitP l.length) : subP m l w = subP m (l.take (splitP l.length)) w ++ [rootP (l.drop (splitP l.length))] := by rw [subP, if_neg h1, dif_pos h, if_pos hm]
theorem subP_hi (h1 : m ≠ l.length) (h : 2 ≤ l.length) (hm : ¬ m ≤ splitP l.length) : subP m l w = subP (m - splitP l.length) (l.drop (splitP l.length)) false ++ [rootP (l.take (splitP l.length))] := by rw [subP, if_neg h1, dif_pos h, if_neg hm]
theorem glenP_all : glenP n n true = 0 := by rw [glenP, if_pos rfl, if_pos rfl]
theorem glenP_root : glenP n n false = 1 := by rw [glenP, if_pos rfl]; rfl
theorem glenP_lo (h1 : m ≠ n) (h : 2 ≤ n) (hm : m ≤ splitP n) : glenP m n w = glenP m (splitP n) w + 1 := by rw [glenP, if_neg h1, dif_pos h, if_pos hm]
theorem glenP_hi (h1 : m ≠ n) (h : 2 ≤ n) (hm : ¬ m ≤ splitP n) : glenP m n w = glenP (m - splitP n) (n - splitP n) false + 1 := by rw [glenP, if_neg h1, dif_pos h, if_neg hm]
theorem gleadP_all : gleadP n n true p old = (old, old) := by rw [gleadP, if_pos rfl, if_pos rfl]
theorem gleadP_root : gleadP n n false p old = (lastP p, lastP p) := by rw [gleadP, if_pos rfl]; rfl
theorem gleadP_lo (h1 : m ≠ n) (h : 2 ≤ n) (hm : m ≤ splitP n) : gleadP m n w p old = ((gleadP m (splitP n) w p.dropLast old).1, nodeP (gleadP m (splitP n) w p.dropLast old).2 (lastP p)) := by rw [gleadP, if_neg h1, dif_pos h, if_pos hm]
theorem gleadP_hi (h1 : m ≠ n) (h : 2 ≤ n) (hm : ¬ m ≤ splitP n) : gleadP m n w p old = (nodeP (lastP p) (gleadP (m - splitP n) (n - splitP n) false p.dropLast old).1, nodeP (lastP p) (gleadP (m - splitP n) (n - splitP n) false p.dropLast old).2) := by rw [gleadP, if_neg h1, dif_pos h, if_neg hm]
end
theorem subP_length : ∀ (n m : Nat) (l : List (List UInt8)) (w : Bool), l.length = n → 1 ≤ m → m ≤ n → (subP m l w).length = glenP m l.length w := by
  intro n
  induction n using Nat.strongRecOn with
  | ind n ih =>
    intro m l w hn h1 h2
    by_cases he : m = l.length
    · subst he
      cases w
      · rw [subP_root, glenP_root]; rfl
      · rw [subP_all, glenP_all]; rfl
    · have h : 2 ≤ l.length := by omega
      have hs := splitP_spec h
      by_cases hm : m ≤ splitP l.length
      · have e1 : (l.take (splitP l.length)).length = splitP l.length := by rw [List.length_take]; omega
        rw [subP_lo he h hm, glenP_lo he h hm, List.length_append, List.length_singleton, ih _ (by omega) m _ w e1 h1 hm, e1]
      · have e1 : (l.drop (splitP l.length)).length = l.length - splitP l.length := List.length_drop
        rw [subP_hi he h hm, glenP_hi he h hm, List.length_append, List.length_singleton, ih _ (by omega) _ _ false e1 (by omega) (by omega), e1]
theorem glenP_le : ∀ (t n m : Nat) (w : Bool), n ≤ 2 ^ t → glenP m n w ≤ t + 1
  | 0, n, m, w, h => by
    rw [Nat.pow_zero] at h
    rw [glenP]
    split
    · split <;> omega
    · rw [dif_neg (by omega)]; omega
  | t + 1, n, m, w, h => by
    by_cases he : m = n
    · subst he
      cases w
      · rw [glenP_root]; omega
      · rw [glenP_all]; omega
    by_cases h2 : 2 ≤ n
    · have hs := splitP_spec h2
      have hh := splitP_half h h2
      by_cases hm : m ≤ splitP n
      · rw [glenP_lo he h2 hm]
        have := glenP_le t (splitP n) m w hh; omega
      · rw [glenP_hi he h2 hm]
        have := glenP_le t (n - splitP n) (m - splitP n) false (by omega); omega
    · rw [glenP, if_neg he, dif_neg h2]; omega
theorem splitP_sub {m n : Nat} (h : 2 ≤ n) (h1 : splitP n < m) (h2 : m ≤ n) : splitP m = splitP n := by
  have hs := splitP_spec h
  obtain ⟨j, hj⟩ : ∃ j, splitP n = 2 ^ j := ⟨(n - 1).log2, by unfold splitP; rw [if_neg (by omega)]⟩
  rw [hj] at hs h1 ⊢
  have h0 := Nat.two_pow_pos j
  unfold splitP
  rw [if_neg (by omega)]
  congr 1
  rw [Nat.log2_eq_iff (by omega)]
  have : 2 ^ (j + 1) = 2 * 2 ^ j := by rw [Nat.pow_succ, Nat.mul_comm]
  omega
/-- A growth's path leads to both roots. -/
theorem gleadP_sub : ∀ (n m : Nat) (l : List (List UInt8)) (w : Bool) (old : List UInt8), l.length = n → 1 ≤ m → m ≤ n → (w = true → old = rootP (l.take m)) → gleadP m l.length w (subP m l w) old = (rootP (l.take m), rootP l) := by
  intro n
  induction n using Nat.strongRecOn with
  | ind n ih =>
    intro m l w old hn h1 h2 ho
    by_cases he : m = l.length
    · subst he
      have e1 : l.take l.length = l := List.take_length
      rw [e1] at ho ⊢
      cases w
      · rw [subP_root, gleadP_root]; rfl
      · rw [gleadP_all, ho rfl]
    · have h : 2 ≤ l.length := by omega
      have hs := splitP_spec h
      have hrt := rootP_more h
      by_cases hm : m ≤ splitP l.length
      · have e1 : (l.take (splitP l.length)).length = splitP l.length := by rw [List.length_take]; omega
        have e2 : (l.take (splitP l.length)).take m = l.take m := by rw [List.take_take, Nat.min_eq_left hm]
        have e3 := ih _ (by omega) m (l.take (splitP l.length)) w old e1 h1 hm (by rw [e2]; exact ho)
        rw [e1, e2] at e3
        rw [subP_lo he h hm, gleadP_lo he h hm, List.dropLast_concat, lastP_snoc, e3, hrt]
      · have e1 : (l.drop (splitP l.length)).length = l.length - splitP l.length := List.length_drop
        have e3 := ih _ (by omega) (m - splitP l.length) (l.drop (splitP l.length)) false old e1 (by omega) (by omega) (fun h => by cases h)
        rw [e1] at e3
        have e4 : (l.take m).length = m := by rw [List.length_take]; omega
        have e5 := rootP_more (l := l.take m) (by omega)
        rw [e4, splitP_sub h (by omega) (by omega), List.take_take, Nat.min_eq_left (by omega), List.drop_take] at e5
        rw [subP_hi he h hm, gleadP_hi he h hm, List.dropLast_concat, lastP_snoc, e3, hrt, e5]
theorem subP_hash : ∀ (n m : Nat) (l : List (List UInt8)) (w : Bool), l.length = n → (∀ a ∈ l, a.length = 32) → ∀ a ∈ subP m l w, a.length = 32 := by
  intro n
  induction n using Nat.strongRecOn with
  | ind n ih =>
    intro m l w hn hh a ha
    by_cases he : m = l.length
    · subst he
      cases w
      · rw [subP_root] at ha; rw [List.mem_singleton.1 ha]; exact hashes_root hh
      · rw [subP_all] at ha; cases ha
    by_cases h : 2 ≤ l.length
    · have hs := splitP_spec h
      by_cases hm : m ≤ splitP l.length
      · rw [subP_lo he h hm] at ha
        rcases List.mem_append.1 ha with q | q
        · exact ih _ (by rw [List.length_take]; omega) _ _ w rfl (fun b hb => hh b (List.mem_of_mem_take hb)) a q
        · rw [List.mem_singleton.1 q]; exact hashes_root fun b hb => hh b (List.mem_of_mem_drop hb)
      · rw [subP_hi he h hm] at ha
        rcases List.mem_append.1 ha with q | q
        · exact ih _ (by rw [List.length_drop]; omega) _ _ false rfl (fun b hb => hh b (List.mem_of_mem_drop hb)) a q
        · rw [List.mem_singleton.1 q]; exact hashes_root fun b hb => hh b (List.mem_of_mem_take hb)
    · rw [subP, if_neg he, dif_neg h] at ha; cases ha
end Go.Bs
