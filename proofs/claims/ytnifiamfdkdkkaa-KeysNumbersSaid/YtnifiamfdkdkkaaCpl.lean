/- a word's other side. -/
import Derived.Test.YtnifiamfdkdkkaaRules
namespace Go.Proofs
set_option linter.unusedVariables false
open Go.Bs
/-- A word's other side. -/
def cpl (n : Nat) : Nat := 4294967295 - n
theorem cpl_bits {n : Nat} (h : n < 4294967296) : Go.bits .xor .u32 IntKind.u32.max (n : Int) = (cpl n : Int) := by
  unfold Go.bits cpl
  simp only [IntKind.bits]
  have e1 : (BitVec.ofInt 32 IntKind.u32.max ^^^ BitVec.ofInt 32 (n : Int)).toNat = 4294967295 - n := by
    have h2 : BitVec.ofInt 32 IntKind.u32.max = BitVec.allOnes 32 := by decide
    rw [h2, BitVec.allOnes_xor, BitVec.toNat_not, BitVec.ofInt_natCast, BitVec.toNat_ofNat, Nat.mod_eq_of_lt (show n < 2 ^ 32 by omega)]
  exact (congrArg (fun z : Nat => IntKind.u32.wrap (z : Int)) e1).trans (wrap_u32 (by omega) (by omega))
theorem Val.cpl32 {P : Program} {N : Fr} {σ : Env} {e : World} {L : List Res} {t ty : TypeId} {x : Operand} {n : Nat} (hx : ev σ x = some (.int .u32 (n : Int))) (hn : n < 4294967296) : Val P N (.unOp .xor t x) ty (.int .u32 (cpl n : Int)) σ e L := fun a w ha _ _ _ _ _ => by
  rw [← cpl_bits hn]
  simp [execOp, ha.ev hx, Op.unary, Op.intBits, Go.bits, IntKind.signed]
/-- What lies behind a call, told in other words. -/
theorem Ct.to {P : Program} {f : FuncId} {args : Array Value} {e : World} {L X Y : List Res} {a : Value} (h : Ct P f args e L (fun v' L' => v' = a ∧ L' = Y)) (g : Ent Y X) : Ct P f args e L (fun v' L' => v' = a ∧ L' = X) :=
  fun w hs => (h w hs).mono fun x w' ⟨v, L', h1, h2, h4⟩ => ⟨v, X, h1, ⟨h2.1, rfl⟩, (h2.2 ▸ h4).ent g⟩
end Go.Proofs
