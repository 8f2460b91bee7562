/- a tree by the roots of its whole parts, the greatest first: what a leaf more makes of them, and the root. -/
import Derived.Test.YtegmeopbpifeeaaTree
namespace Go.Bs
theorem splitP_mid {j n : Nat} (h1 : 2 ^ j < n) (h2 : n < 2 ^ (j + 1)) : splitP n = 2 ^ j := by
  have h0 := Nat.two_pow_pos j
  have h3 : 2 ^ (j + 1) = 2 * 2 ^ j := by rw [Nat.pow_succ, Nat.mul_comm]
  unfold splitP
  rw [if_neg (by omega)]
  congr 1
  rw [Nat.log2_eq_iff (by omega), h3]
  omega
theorem splitP_two (j : Nat) : splitP (2 ^ (j + 1)) = 2 ^ j := by
  have h0 := Nat.two_pow_pos j
  have h1 : 2 ^ (j + 1) = 2 * 2 ^ j := by rw [Nat.pow_succ, Nat.mul_comm]
  unfold splitP
  rw [if_neg (by omega)]
  congr 1
  rw [Nat.log2_eq_iff (by omega), h1]
  omega
abbrev Hs := List (List UInt8)
/-- The roots of the whole parts of fewer than 2^j leaves. -/
def nodesD : Nat → Hs → Hs
  | 0, _ => []
  | j + 1, l => if 2 ^ j ≤ l.length then rootP (l.take (2 ^ j)) :: nodesD j (l.drop (2 ^ j)) else nodesD j l
theorem none0 {l : Hs} (h : l.length < 2 ^ 0) : l = [] := List.length_eq_zero_iff.1 (by rw [Nat.pow_zero] at h; omega)
theorem nodesD_nil : ∀ j, nodesD j [] = []
  | 0 => rfl
  | j + 1 => by
    have h0 := Nat.two_pow_pos j
    rw [nodesD, if_neg (by simp)]
    exact nodesD_nil j
/-- All nodes, folded from behind. -/
def foldN : Hs → List UInt8
  | [] => rootP []
  | [a] => a
  | a :: b :: r => nodeP a (foldN (b :: r))
theorem nodesD_ne : ∀ {j : Nat} {l : Hs}, l ≠ [] → l.length < 2 ^ j → nodesD j l ≠ []
  | 0, l, h, h1 => by
    exact absurd (none0 h1) h
  | j + 1, l, h, h1 => by
    rw [nodesD]
    split
    · simp
    · exact nodesD_ne h (by omega)
theorem foldN_cons {a : List UInt8} {r : Hs} (h : r ≠ []) : foldN (a :: r) = nodeP a (foldN r) := by
  match r, h with
  | b :: r, _ => rfl
theorem root_nodesD : ∀ {j : Nat} {l : Hs}, l.length < 2 ^ j → foldN (nodesD j l) = rootP l
  | 0, l, h => by
    have : l = [] := none0 h
    subst this; rfl
  | j + 1, l, h => by
    have h3 : 2 ^ (j + 1) = 2 * 2 ^ j := by rw [Nat.pow_succ, Nat.mul_comm]
    have h0 := Nat.two_pow_pos j
    rw [nodesD]
    split
    · rename_i h1
      by_cases h2 : l.length = 2 ^ j
      · have h4 : l.drop (2 ^ j) = [] := List.drop_of_length_le (by omega)
        rw [h4, nodesD_nil, List.take_of_length_le (by omega)]
        rfl
      · have h4 : l.drop (2 ^ j) ≠ [] := fun h5 => by
          have := congrArg List.length h5
          simp at this; omega
        have h5 : (l.drop (2 ^ j)).length < 2 ^ j := by rw [List.length_drop]; omega
        rw [foldN_cons (nodesD_ne h4 h5), root_nodesD h5, rootP_more (l := l) (by omega), splitP_mid (by omega) h]
    · exact root_nodesD (by omega)
/-- What one leaf more makes of the nodes. -/
def pushN (n : Nat) (ns : Hs) (t : List UInt8) : Hs :=
  if h : n % 2 = 1 then pushN (n / 2) ns.dropLast (nodeP (ns.getLast?.getD []) t) else ns ++ [t]
termination_by n
decreasing_by omega
theorem rootP_both {j : Nat} {u t : Hs} (hu : u.length = 2 ^ j) (ht : t.length = 2 ^ j) : rootP (u ++ t) = nodeP (rootP u) (rootP t) := by
  have h0 := Nat.two_pow_pos j
  have h3 : 2 ^ (j + 1) = 2 * 2 ^ j := by rw [Nat.pow_succ, Nat.mul_comm]
  have h4 : (u ++ t).length = 2 ^ (j + 1) := by rw [List.length_append, hu, ht]; omega
  rw [rootP_more (by omega), h4, splitP_two, ← hu, List.take_left', List.drop_left'] <;> rfl
theorem mul_lt_pow {m i j : Nat} (hm : 0 < m) (h : m * 2 ^ i < 2 ^ j) : i < j := by
  refine (Nat.pow_lt_pow_iff_right (a := 2) (by omega)).1 (Nat.lt_of_le_of_lt ?_ h)
  exact Nat.le_mul_of_pos_left _ hm
theorem nodesD_more : ∀ {j i m : Nat} {l u : Hs}, l.length = m * 2 ^ (i + 1) → u.length = 2 ^ i → (l ++ u).length < 2 ^ j → nodesD j (l ++ u) = nodesD j l ++ [rootP u]
  | 0, i, m, l, u, hl, hu, h => by
    have h0 := Nat.two_pow_pos i
    rw [List.length_append, Nat.pow_zero] at h; omega
  | j + 1, i, m, l, u, hl, hu, h => by
    have h0 := Nat.two_pow_pos i
    have hj := Nat.two_pow_pos j
    have h3 : 2 ^ (j + 1) = 2 * 2 ^ j := by rw [Nat.pow_succ, Nat.mul_comm]
    rw [List.length_append] at h
    rw [nodesD, nodesD, List.length_append]
    by_cases h1 : 2 ^ j ≤ l.length
    · rw [if_pos (by omega), if_pos h1, List.take_append_of_le_length h1, List.drop_append_of_le_length h1]
      have hm : 0 < m := Nat.pos_of_ne_zero fun hz => by rw [hz, Nat.zero_mul] at hl; omega
      have hij : i + 1 < j + 1 := mul_lt_pow hm (by rw [← hl]; omega)
      obtain ⟨d, rfl⟩ : ∃ d, j = d + (i + 1) := ⟨j - (i + 1), by omega⟩
      have h5 : (l.drop (2 ^ (d + (i + 1)))).length = (m - 2 ^ d) * 2 ^ (i + 1) := by
        rw [List.length_drop, hl, Nat.sub_mul, ← Nat.pow_add]
      rw [nodesD_more h5 hu (by rw [List.length_append, List.length_drop]; omega)]
      rfl
    · rw [if_neg h1]
      by_cases h2 : 2 ^ j ≤ l.length + u.length
      · rw [if_pos h2]
        by_cases hm : m = 0
        · rw [hm, Nat.zero_mul] at hl
          have hnil : l = [] := List.length_eq_zero_iff.1 hl
          subst hnil
          have e1 : u.length = 2 ^ j := by
            simp only [List.length_nil, Nat.zero_add] at h h2
            have hle : j ≤ i := (Nat.pow_le_pow_iff_right (a := 2) (by omega)).1 (by rw [← hu]; exact h2)
            have hlt : i < j + 1 := (Nat.pow_lt_pow_iff_right (a := 2) (by omega)).1 (by rw [← hu]; exact h)
            rw [hu, show i = j by omega]
          rw [List.nil_append, List.take_of_length_le (by omega), List.drop_of_length_le (by omega), nodesD_nil]
          rfl
        · exfalso
          have hm : 0 < m := Nat.pos_of_ne_zero hm
          have hij : i + 1 < j := mul_lt_pow hm (by rw [← hl]; omega)
          obtain ⟨d, rfl⟩ : ∃ d, j = d + (i + 1) := ⟨j - (i + 1), by omega⟩
          rw [Nat.pow_add] at h1 h2
          have h6 : m < 2 ^ d := Nat.lt_of_mul_lt_mul_right (a := 2 ^ (i + 1)) (by rw [← hl]; omega)
          have h7 : (m + 1) * 2 ^ (i + 1) ≤ 2 ^ d * 2 ^ (i + 1) := Nat.mul_le_mul_right _ h6
          rw [Nat.add_mul, ← hl, Nat.one_mul] at h7
          have h8 : 2 ^ (i + 1) = 2 * 2 ^ i := by rw [Nat.pow_succ, Nat.mul_comm]
          omega
      · rw [if_neg h2]
        exact nodesD_more hl hu (by rw [List.length_append]; omega)
theorem push_nodesD {j : Nat} : ∀ (m i : Nat) (l t : Hs), l.length = m * 2 ^ i → t.length = 2 ^ i → (l ++ t).length < 2 ^ j → nodesD j (l ++ t) = pushN m (nodesD j l) (rootP t) := by
  intro m
  induction m using Nat.strongRecOn with
  | ind m ih =>
    intro i l t hl ht h
    have h8 : 2 ^ (i + 1) = 2 * 2 ^ i := by rw [Nat.pow_succ, Nat.mul_comm]
    have h0 := Nat.two_pow_pos i
    by_cases hodd : m % 2 = 1
    · rw [pushN, dif_pos hodd]
      have hm2 : m * 2 ^ i = (m / 2) * 2 ^ (i + 1) + 2 ^ i := by
        rw [h8, ← Nat.mul_assoc]
        have : m = m / 2 * 2 + 1 := by omega
        conv => lhs; rw [this]
        rw [Nat.add_mul, Nat.one_mul]
      obtain ⟨a, ha⟩ : ∃ a, a = l.take ((m / 2) * 2 ^ (i + 1)) := ⟨_, rfl⟩
      obtain ⟨u, hu⟩ : ∃ u, u = l.drop ((m / 2) * 2 ^ (i + 1)) := ⟨_, rfl⟩
      have hal : a.length = (m / 2) * 2 ^ (i + 1) := by rw [ha, List.length_take]; omega
      have hul : u.length = 2 ^ i := by rw [hu, List.length_drop]; omega
      have hlu : l = a ++ u := by rw [ha, hu, List.take_append_drop]
      subst hlu
      clear ha hu
      rw [nodesD_more hal hul (by rw [List.length_append] at h; omega), List.dropLast_concat, List.getLast?_concat, Option.getD_some, ← rootP_both hul ht, List.append_assoc]
      exact ih (m / 2) (by omega) (i + 1) a (u ++ t) hal (by rw [List.length_append]; omega) (by rw [← List.append_assoc]; exact h)
    · rw [pushN, dif_neg hodd]
      refine nodesD_more (i := i) (m := m / 2) ?_ ht h
      rw [h8, ← Nat.mul_assoc, show m / 2 * 2 = m by omega]
      exact hl
theorem push_one {j : Nat} {l : Hs} {x : List UInt8} (h : l.length + 1 < 2 ^ j) : nodesD j (l ++ [x]) = pushN l.length (nodesD j l) x := by
  have := push_nodesD (j := j) l.length 0 l [x] (by simp) (by simp) (by simpa using h)
  rwa [rootP_one] at this
/-! ### how many bits -/
def pcP (n : Nat) : Nat := if h : n = 0 then 0 else n % 2 + pcP (n / 2)
termination_by n
decreasing_by omega
theorem pcP_step (n : Nat) : pcP n = n % 2 + pcP (n / 2) := by
  by_cases h : n = 0
  · subst h; simp [pcP]
  · rw [pcP, dif_neg h]
theorem pcP_zero : pcP 0 = 0 := by simp [pcP]
theorem nodesD_length : ∀ {j : Nat} {l : Hs}, l.length < 2 ^ j → (nodesD j l).length = pcP l.length := by
  have hp : ∀ (j n : Nat), n < 2 ^ j → pcP (2 ^ j + n) = 1 + pcP n := by
    intro j
    induction j with
    | zero => intro n h; have : n = 0 := by simp at h; omega
              subst this; simp [pcP]
    | succ j ih =>
      intro n h
      have h8 : 2 ^ (j + 1) = 2 * 2 ^ j := by rw [Nat.pow_succ, Nat.mul_comm]
      rw [pcP_step, pcP_step n, show (2 ^ (j + 1) + n) / 2 = 2 ^ j + n / 2 by omega, ih _ (by omega)]
      omega
  intro j
  induction j with
  | zero => intro l h; have : l = [] := none0 h
            subst this; simp [nodesD, pcP]
  | succ j ih =>
    intro l h
    have h8 : 2 ^ (j + 1) = 2 * 2 ^ j := by rw [Nat.pow_succ, Nat.mul_comm]
    rw [nodesD]
    split
    · rename_i h1
      have hl : (l.drop (2 ^ j)).length = l.length - 2 ^ j := List.length_drop
      rw [List.length_cons, ih (by omega), hl]
      have := hp j (l.length - 2 ^ j) (by omega)
      rw [show 2 ^ j + (l.length - 2 ^ j) = l.length by omega] at this
      omega
    · exact ih (by omega)
theorem rootP_hash {l : Hs} (h : ∀ a ∈ l, a.length = 32) : (rootP l).length = 32 := by
  match l, h with
  | [], _ => rw [rootP_nil, sha_length]
  | [a], h => rw [rootP_one]; exact h a (List.mem_singleton.2 rfl)
  | a :: b :: r, _ => rw [rootP_more (by simp)]; exact tagP_length _ _
theorem nodesD_hash : ∀ {j : Nat} {l : Hs}, (∀ a ∈ l, a.length = 32) → ∀ a ∈ nodesD j l, a.length = 32
  | 0, _, _, a, ha => by cases ha
  | j + 1, l, h, a, ha => by
    rw [nodesD] at ha
    split at ha
    · rcases List.mem_cons.1 ha with rfl | ha
      · exact rootP_hash fun a ha => h a (List.mem_of_mem_take ha)
      · exact nodesD_hash (fun a ha => h a (List.mem_of_mem_drop ha)) a ha
    · exact nodesD_hash h a ha
end Go.Bs
