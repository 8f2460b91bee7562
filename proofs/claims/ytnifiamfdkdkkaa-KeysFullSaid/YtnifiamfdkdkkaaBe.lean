/- Numbers as bytes, the highest first. -/
namespace Go.Bs
set_option linter.unusedVariables false
set_option linter.unusedSimpArgs false
def be (n : Nat) : Nat → List UInt8
  | 0 => []
  | j + 1 => UInt8.ofNat (n / 256 ^ j) :: be n j
theorem be_length (n : Nat) : ∀ j, (be n j).length = j
  | 0 => rfl
  | j + 1 => by simp [be, be_length n j]
end Go.Bs
namespace Go.Bs
/-- The number that bytes make, the highest first. -/
def numOf (l : List UInt8) : Nat := l.foldl (fun a c => (a * 256) % 4294967296 + c.toNat) 0
theorem numOf_snoc (l : List UInt8) (c : UInt8) : numOf (l ++ [c]) = (numOf l * 256) % 4294967296 + c.toNat := by simp [numOf]
theorem numOf_lt (l : List UInt8) : numOf l < 4294967296 := by
  rcases List.eq_nil_or_concat l with rfl | ⟨m, c, rfl⟩
  · simp [numOf]
  · rw [List.concat_eq_append, numOf_snoc]
    have := c.toNat_lt
    omega
/-- A reader: what is left, whether bytes lacked. -/
structure RSt where
  left : List UInt8
  bad : Bool
def RSt.fits (s : RSt) (n : Int) : Bool := !s.bad && decide (0 ≤ n) && decide (n ≤ s.left.length)
def RSt.take (s : RSt) (n : Int) : List UInt8 := if s.fits n then s.left.take n.toNat else []
def RSt.next (s : RSt) (n : Int) : RSt := if s.fits n then ⟨s.left.drop n.toNat, false⟩ else ⟨[], true⟩
def RSt.num (s : RSt) (n : Int) : Nat := numOf (s.take n)
/-- A text's length is read, then the text. -/
def RSt.len (s : RSt) (most : Int) : Int := if (s.num 2 : Int) > max most 0 then -1 else s.num 2
def RSt.bytes (s : RSt) (most : Int) : List UInt8 := (s.next 2).take (s.len most)
def RSt.nextB (s : RSt) (most : Int) : RSt := (s.next 2).next (s.len most)
theorem RSt.take_length (s : RSt) (n : Int) : (s.take n).length ≤ s.left.length := by
  unfold RSt.take; split
  · simp; omega
  · simp
theorem RSt.next_length (s : RSt) (n : Int) : (s.next n).left.length ≤ s.left.length := by
  unfold RSt.next; split
  · simp
  · simp
def RSt.ok (s : RSt) : Prop := s.bad = true → s.left = []
theorem RSt.next_ok (s : RSt) (n : Int) : (s.next n).ok := by
  unfold RSt.next RSt.ok; split
  · simp
  · simp
end Go.Bs
namespace Go.Bs
theorem be4 (n : Nat) : be n 4 = [UInt8.ofNat (n / 16777216), UInt8.ofNat (n / 65536), UInt8.ofNat (n / 256), UInt8.ofNat n] := by
  simp [be]
theorem numOf_be4 (n : Nat) (h : n < 4294967296) : numOf (be n 4) = n := by
  rw [be4]
  simp [numOf]
  omega
theorem be4_inj {a b : Nat} (ha : a < 4294967296) (hb : b < 4294967296) (h : be a 4 = be b 4) : a = b := by
  rw [← numOf_be4 a ha, ← numOf_be4 b hb, h]
theorem numOf_be2 (n : Nat) (h : n < 65536) : numOf (be n 2) = n := by
  simp [be, numOf]
  omega
theorem numOf_be1 (n : Nat) (h : n < 256) : numOf (be n 1) = n := by
  simp [be, numOf]
  omega
/-- A text with its length ahead. -/
def enc (b : List UInt8) : List UInt8 := be b.length 2 ++ b
theorem enc_length (b : List UInt8) : (enc b).length = b.length + 2 := by simp [enc, be_length]; omega
/-- What a reader takes where enough is there. -/
theorem take_fits {a rest : List UInt8} : RSt.take ⟨a ++ rest, false⟩ (a.length : Int) = a ∧ RSt.next ⟨a ++ rest, false⟩ (a.length : Int) = ⟨rest, false⟩ := by
  have h : RSt.fits ⟨a ++ rest, false⟩ (a.length : Int) = true := by
    simp only [RSt.fits, Bool.not_false, Bool.true_and, Bool.and_eq_true, decide_eq_true_eq, List.length_append]
    omega
  constructor
  · simp only [RSt.take, h, if_true]
    simp
  · simp only [RSt.next, h, if_true]
    simp
theorem take_short {l : List UInt8} {n : Int} (h : (l.length : Int) < n) : RSt.take ⟨l, false⟩ n = [] ∧ RSt.next ⟨l, false⟩ n = ⟨[], true⟩ := by
  have h : RSt.fits ⟨l, false⟩ n = false := by
    simp only [RSt.fits, Bool.not_false, Bool.true_and, Bool.and_eq_false_iff, decide_eq_false_iff_not]
    omega
  constructor
  · simp only [RSt.take, h]; rfl
  · simp only [RSt.next, h]; rfl
theorem bytes_enc (x rest : List UInt8) (m : Int) (hx : x.length ≤ 65535) (hm : (x.length : Int) ≤ max m 0) : RSt.bytes ⟨enc x ++ rest, false⟩ m = x ∧ RSt.nextB ⟨enc x ++ rest, false⟩ m = ⟨rest, false⟩ := by
  have e1 : enc x ++ rest = be x.length 2 ++ (x ++ rest) := by simp [enc]
  have h1 := take_fits (a := be x.length 2) (rest := x ++ rest)
  rw [be_length] at h1
  have h2 : RSt.num ⟨enc x ++ rest, false⟩ 2 = x.length := by
    rw [RSt.num, e1]
    show numOf (RSt.take ⟨be x.length 2 ++ (x ++ rest), false⟩ ((2 : Nat) : Int)) = _
    rw [h1.1]
    exact numOf_be2 _ (by omega)
  have h3 : RSt.len ⟨enc x ++ rest, false⟩ m = x.length := by rw [RSt.len, h2, if_neg (by omega)]
  have h4 : RSt.next ⟨enc x ++ rest, false⟩ 2 = ⟨x ++ rest, false⟩ := by
    rw [e1]
    exact h1.2
  have h5 := take_fits (a := x) (rest := rest)
  exact ⟨by rw [RSt.bytes, h3, h4]; exact h5.1, by rw [RSt.nextB, h3, h4]; exact h5.2⟩
theorem bytes_cut (x : List UInt8) (j : Nat) (m : Int) (hj : j < (enc x).length) (hx : x.length ≤ 65535) (hm : (x.length : Int) ≤ max m 0) : RSt.bytes ⟨(enc x).take j, false⟩ m = [] ∧ RSt.nextB ⟨(enc x).take j, false⟩ m = ⟨[], true⟩ := by
  rw [enc_length] at hj
  rcases Nat.lt_or_ge j 2 with h | h
  · have h1 : (((enc x).take j).length : Int) < 2 := by rw [List.length_take]; omega
    have h2 := take_short h1
    have h3 : RSt.num ⟨(enc x).take j, false⟩ 2 = 0 := by rw [RSt.num, h2.1]; rfl
    have h4 : RSt.len ⟨(enc x).take j, false⟩ m = 0 := by rw [RSt.len, h3, if_neg (by omega)]; rfl
    exact ⟨by rw [RSt.bytes, h4, h2.2]; rfl, by rw [RSt.nextB, h4, h2.2]; rfl⟩
  · obtain ⟨k, rfl⟩ : ∃ k, j = k + 2 := ⟨j - 2, by omega⟩
    have e1 : (enc x).take (k + 2) = be x.length 2 ++ x.take k := by
      rw [enc, List.take_append, be_length, List.take_of_length_le (by rw [be_length]; omega)]
      simp
    rw [e1]
    have h1 := take_fits (a := be x.length 2) (rest := x.take k)
    rw [be_length] at h1
    have h2 : RSt.num ⟨be x.length 2 ++ x.take k, false⟩ 2 = x.length := by
      rw [RSt.num]
      show numOf (RSt.take ⟨be x.length 2 ++ x.take k, false⟩ ((2 : Nat) : Int)) = _
      rw [h1.1]
      exact numOf_be2 _ (by omega)
    have h3 : RSt.len ⟨be x.length 2 ++ x.take k, false⟩ m = x.length := by rw [RSt.len, h2, if_neg (by omega)]
    have h4 : RSt.next ⟨be x.length 2 ++ x.take k, false⟩ 2 = ⟨x.take k, false⟩ := h1.2
    have h5 := take_short (l := x.take k) (n := (x.length : Int)) (by rw [List.length_take]; omega)
    exact ⟨by rw [RSt.bytes, h3, h4]; exact h5.1, by rw [RSt.nextB, h3, h4]; exact h5.2⟩
end Go.Bs
