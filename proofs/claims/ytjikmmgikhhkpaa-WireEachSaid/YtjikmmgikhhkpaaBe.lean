/- Numbers as bytes, the highest first. -/
namespace Go.Bs
set_option linter.unusedVariables false
set_option linter.unusedSimpArgs false
def be (n : Nat) : Nat → List UInt8
  | 0 => []
  | j + 1 => UInt8.ofNat (n / 256 ^ j) :: be n j
theorem be_length (n : Nat) : ∀ j, (be n j).length = j
  | 0 => rfl
  | j + 1 => by simp [be, be_length n j]
end Go.Bs
namespace Go.Bs
/-- The number that bytes make, the highest first. -/
def numOf (l : List UInt8) : Nat := l.foldl (fun a c => (a * 256) % 4294967296 + c.toNat) 0
theorem numOf_snoc (l : List UInt8) (c : UInt8) : numOf (l ++ [c]) = (numOf l * 256) % 4294967296 + c.toNat := by simp [numOf]
theorem numOf_lt (l : List UInt8) : numOf l < 4294967296 := by
  rcases List.eq_nil_or_concat l with rfl | ⟨m, c, rfl⟩
  · simp [numOf]
  · rw [List.concat_eq_append, numOf_snoc]
    have := c.toNat_lt
    omega
/-- A reader: what is left, whether bytes lacked. -/
structure RSt where
  left : List UInt8
  bad : Bool
def RSt.fits (s : RSt) (n : Int) : Bool := !s.bad && decide (0 ≤ n) && decide (n ≤ s.left.length)
def RSt.take (s : RSt) (n : Int) : List UInt8 := if s.fits n then s.left.take n.toNat else []
def RSt.next (s : RSt) (n : Int) : RSt := if s.fits n then ⟨s.left.drop n.toNat, false⟩ else ⟨[], true⟩
def RSt.num (s : RSt) (n : Int) : Nat := numOf (s.take n)
/-- A text's length is read, then the text. -/
def RSt.len (s : RSt) (most : Int) : Int := if (s.num 2 : Int) > max most 0 then -1 else s.num 2
def RSt.bytes (s : RSt) (most : Int) : List UInt8 := (s.next 2).take (s.len most)
def RSt.nextB (s : RSt) (most : Int) : RSt := (s.next 2).next (s.len most)
theorem RSt.take_length (s : RSt) (n : Int) : (s.take n).length ≤ s.left.length := by
  unfold RSt.take; split
  · simp; omega
  · simp
theorem RSt.next_length (s : RSt) (n : Int) : (s.next n).left.length ≤ s.left.length := by
  unfold RSt.next; split
  · simp
  · simp
def RSt.ok (s : RSt) : Prop := s.bad = true → s.left = []
theorem RSt.next_ok (s : RSt) (n : Int) : (s.next n).ok := by
  unfold RSt.next RSt.ok; split
  · simp
  · simp
end Go.Bs
namespace Go.Bs
theorem be4 (n : Nat) : be n 4 = [UInt8.ofNat (n / 16777216), UInt8.ofNat (n / 65536), UInt8.ofNat (n / 256), UInt8.ofNat n] := by
  simp [be]
theorem numOf_be4 (n : Nat) (h : n < 4294967296) : numOf (be n 4) = n := by
  rw [be4]
  simp [numOf]
  omega
theorem be4_inj {a b : Nat} (ha : a < 4294967296) (hb : b < 4294967296) (h : be a 4 = be b 4) : a = b := by
  rw [← numOf_be4 a ha, ← numOf_be4 b hb, h]
end Go.Bs
