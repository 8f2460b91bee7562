/- bits.Len; the greatest power of two below a number. -/
import Derived.Test.YtegmeopbpifeeaaArr
import Derived.Test.YtegmeopbpifeeaaFacts
import Derived.KernelRfl
namespace Go.Bs
/-- How many bits a number has. -/
def lenP (n : Nat) : Nat := if n = 0 then 0 else n.log2 + 1
theorem lenP_div (n k : Nat) (h : 2 ^ k ≤ n) : lenP (n / 2 ^ k) + k = lenP n := by
  have h0 : 0 < 2 ^ k := Nat.two_pow_pos k
  have h1 : n ≠ 0 := by omega
  have h2 : n / 2 ^ k ≠ 0 := by
    have := Nat.div_pos h h0
    omega
  unfold lenP
  rw [if_neg h1, if_neg h2]
  have h3 : k ≤ n.log2 := (Nat.le_log2 h1).2 h
  have h4 : (n / 2 ^ k).log2 = n.log2 - k := by
    rw [Nat.log2_eq_iff h2]
    constructor
    · rw [Nat.le_div_iff_mul_le h0, ← Nat.pow_add, Nat.sub_add_cancel h3]
      exact Nat.log2_self_le h1
    · rw [Nat.div_lt_iff_lt_mul h0, ← Nat.pow_add, show n.log2 - k + 1 + k = n.log2 + 1 by omega]
      exact Nat.lt_log2_self
  omega
def lenTab : List UInt8 := (List.range 256).map fun i => UInt8.ofNat (lenP i)
section
variable {P : Program} {N : Fr} {Q : Goal} {σ : Env} {e : World} {L : List Res} {all : Array Oper} {rest : List Oper} {d : Nat} {ty : TypeId} {pos : String} {af : Array Edge}
theorem O.indexS {x y : Operand} {t : TypeId} {s : ByteArray} {k : IntKind} {i c : Nat} [q : StrT P t] (h : ev σ x = some (.string s)) (h1 : ev σ y = some (.int k (i : Int))) (hl : ∃ h : i < s.size, s[i].toNat = c) (hd : Nat.blt d N.n = true)
    (kk : O P N all rest Q ((d, .int .u8 (c : Int)) :: σ) e L) : O P N all (⟨some d, .index t x y, ty, pos, af, none⟩ :: rest) Q σ e L := by
  obtain ⟨h2, h3⟩ := hl
  refine O.val _ ?_ hd kk
  have := Val.index1 (P := P) (N := N) (ty := ty) (e := e) (L := L) (t := t) h h1 h2
  rw [h3] at this
  exact this
end
theorem lenTab_length : lenTab.length = 256 := by simp [lenTab]
theorem lenTab_at (y : Nat) (hy : y < 256) : (lenTab[y]'(by rw [lenTab_length]; exact hy)).toNat = lenP y := by
  have h1 : ∀ m : _root_.Fin 256, (lenTab[m.1]'(by rw [lenTab_length]; exact m.2)).toNat = lenP m.1 := by decide +kernel
  exact h1 ⟨y, hy⟩
theorem fdivN (m s : Nat) (t : Nat) (h : s ≤ t) : ((m : Int)).fdiv (2 ^ (min ((s : Int)).toNat t)) = ((m / 2 ^ s : Nat) : Int) := by
  rw [Int.toNat_natCast, Nat.min_eq_left h, Int.fdiv_eq_ediv_of_nonneg _ (Int.pow_nonneg (by decide))]
  simp
end Go.Bs
namespace Go.Proofs
set_option linter.unusedVariables false
open Go.Bs
set_option linter.unusedSimpArgs false
attribute [local irreducible] Bs.Val Bs.Do Bs.O Bs.W Bs.Fin Bs.A Bs.Ct Bs.RdSl Bs.Rd Bs.Sat Bs.Blk Bs.Ob Bs.Own Bs.View Bs.Ent Bs.Ex Bs.All Bs.Pu Bs.Base Bs.sepL Bs.RdA
end Go.Proofs
