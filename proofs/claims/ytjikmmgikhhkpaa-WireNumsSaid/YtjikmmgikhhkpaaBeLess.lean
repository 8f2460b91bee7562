/- Numbers of four bytes stand in order as their bytes do. -/
import Derived.Test.YtjikmmgikhhkpaaBe
import GoSem.Op.String
namespace Go.Bs
theorem digits {a : Nat} (ha : a < 4294967296) : ∃ a3 a2 a1 a0, a3 < 256 ∧ a2 < 256 ∧ a1 < 256 ∧ a0 < 256 ∧ a = 16777216 * a3 + 65536 * a2 + 256 * a1 + a0 ∧ a / 16777216 % 256 = a3 ∧ a / 65536 % 256 = a2 ∧ a / 256 % 256 = a1 ∧ a % 256 = a0 :=
  ⟨a / 16777216, a / 65536 % 256, a / 256 % 256, a % 256, by omega, by omega, by omega, by omega, by omega, by omega, rfl, rfl, rfl⟩
theorem be4_less {a b : Nat} (ha : a < 4294967296) (hb : b < 4294967296) : Op.bytesLess (be a 4) (be b 4) = decide (a < b) := by
  rw [be4, be4]
  have e : ∀ x y : Nat, (UInt8.ofNat x == UInt8.ofNat y) = decide (x % 256 = y % 256) := fun x y => by
    rw [Bool.eq_iff_iff]
    simp [← UInt8.toNat_inj]
  have l : ∀ x y : Nat, decide (UInt8.ofNat x < UInt8.ofNat y) = decide (x % 256 < y % 256) := fun x y => by
    simp [UInt8.lt_iff_toNat_lt]
  simp only [Op.bytesLess, e, l]
  obtain ⟨a3, a2, a1, a0, h1, h2, h3, h4, h5, h6, h7, h8, h9⟩ := digits ha
  obtain ⟨b3, b2, b1, b0, g1, g2, g3, g4, g5, g6, g7, g8, g9⟩ := digits hb
  rw [h6, h7, h8, h9, g6, g7, g8, g9]
  clear h6 h7 h8 h9 g6 g7 g8 g9
  rw [Bool.eq_iff_iff]
  simp only [Bool.or_eq_true, Bool.and_eq_true, decide_eq_true_eq]
  constructor
  · rintro (h | ⟨h, h | ⟨h', h | ⟨h'', h⟩⟩⟩)
    · omega
    · omega
    · omega
    · simp at h; omega
  · intro h
    by_cases c3 : a3 = b3
    · by_cases c2 : a2 = b2
      · by_cases c1 : a1 = b1
        · right; refine ⟨c3, .inr ⟨c2, .inr ⟨c1, ?_⟩⟩⟩
          simp; omega
        · right; refine ⟨c3, .inr ⟨c2, .inl ?_⟩⟩; omega
      · right; refine ⟨c3, .inl ?_⟩; omega
    · left; omega
end Go.Bs
