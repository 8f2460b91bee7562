/- function values: comparing with nil, calling. -/
import Derived.Test.YtaghckfpnfkihaaFacts
namespace Go.Bs
set_option linter.unusedVariables false
set_option linter.unusedSimpArgs false
open Go
class FnT (P : Program) (t : TypeId) : Prop where
  und : ∃ a b c, P.underlying t = some (.func a b c)
section
variable {P : Program} {N : Fr} {Q : Goal} {σ : Env} {e : World} {L : List Res} {all : Array Oper} {rest : List Oper} {d : Nat} {t ty t' : TypeId} {pos : String} {af : Array Edge} {x y : Operand}
theorem run_equalIn_fn (i : ∃ a b c, P.underlying t = some (.func a b c)) (w : World) (n : Nat) (f : Fn) (u v : Array Value) : (Op.equalIn (n + 1) t (.func f u v) .nilFunc).run P w = .ok false w := by
  obtain ⟨a, b, c, i⟩ := i
  simp [Op.equalIn, run_underlying i]
theorem run_eql_fn (i : ∃ a b c, P.underlying t = some (.func a b c)) (w : World) (f : Fn) (u v : Array Value) : (binOp .eql t (.func f u v) .nilFunc).run P w = .ok (.bool false) w := by
  have : (Op.equal t (.func f u v) .nilFunc).run P w = .ok false w := run_equalIn_fn i w 9999 f u v
  simp only [binOp]; simp [this]
theorem Val.eqlFn {f : Fn} {u v : Array Value} [i : FnT P t] (h : ev σ x = some (.func f u v)) (h1 : ev σ y = some .nilFunc) : Val P N (.binOp .eql t x y t') ty (.bool false) σ e L := fun a w ha _ _ _ _ _ => by
  simp [execOp, ha.ev h, ha.ev h1, eqGuard, run_eql_fn i.und]
theorem O.eqlFn {f : Fn} {u v : Array Value} [i : FnT P t] (h : ev σ x = some (.func f u v)) (h1 : ev σ y = some .nilFunc) (hd : Nat.blt d N.n = true) (kk : O P N all rest Q ((d, .bool false) :: σ) e L) : O P N all (⟨some d, .binOp .eql t x y t', ty, pos, af, none⟩ :: rest) Q σ e L := O.val _ (Val.eqlFn h h1) hd kk
end
theorem Ct.post {P : Program} {f : FuncId} {args : Array Value} {e : World} {L : List Res} {Post Post' : Value → List Res → Prop} (h : Ct P f args e L Post) (k : ∀ v L', Post v L' → ∃ L2, Ent L' L2 ∧ Post' v L2) : Ct P f args e L Post' :=
  fun w hs => (h w hs).mono fun x w' ⟨v, L', h1, h2, h4⟩ => by
    obtain ⟨L2, h5, h6⟩ := k v L' h2
    exact ⟨v, L2, h1, h6, h4.ent h5⟩
end Go.Bs
