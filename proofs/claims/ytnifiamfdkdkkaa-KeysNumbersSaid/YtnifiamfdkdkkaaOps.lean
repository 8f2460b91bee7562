/- One rule for each kind of operation. -/
import Derived.Test.YtnifiamfdkdkkaaEng
namespace Go.Bs
set_option linter.unusedVariables false
set_option linter.unusedSimpArgs false

class SlT (P : Program) (t : TypeId) (e : outParam TypeId) (n : outParam Nat) : Prop where
  und : P.underlying t = some (.slice e)
  siz : ∀ w, (sizeOf e).run P w = .ok n w
class PlainT (P : Program) (t : TypeId) : Prop where
  ag : ∀ w, (isAgg t).run P w = .ok false w
  siz : ∀ w, (sizeOf t).run P w = .ok 1 w
class AggT (P : Program) (t : TypeId) (n : outParam Nat) : Prop where
  ag : ∀ w, (isAgg t).run P w = .ok true w
  siz : ∀ w, (sizeOf t).run P w = .ok n w
class FieldT (P : Program) (s : TypeId) (f : Nat) (off : outParam Nat) : Prop where
  run : ∀ g o w, (Instr.fieldAt s (.pointer (some ⟨g, o, none⟩)) f).run P w = .ok (.pointer (some ⟨g, o + off, none⟩)) w
class IntT (P : Program) (t : TypeId) (k : outParam IntKind) : Prop where
  und : P.underlying t = some (.int k)
class StrT (P : Program) (t : TypeId) : Prop where
  und : P.underlying t = some .string
class BoolT (P : Program) (t : TypeId) : Prop where
  und : P.underlying t = some .bool
class PtrT (P : Program) (t : TypeId) (e : outParam TypeId) : Prop where
  und : P.underlying t = some (.pointer e)
class CallT (P : Program) (f : FuncId) (g : outParam FuncId) : Prop where
  run : ∀ args w, (callFunc f args).run P w = .ok (.enter g args) w
class ZeroT (P : Program) (t : TypeId) (z : outParam Value) : Prop where
  run : ∀ w, (zeroValue t).run P w = .ok z w

section
variable {P : Program} {N : Fr} {Q : Goal} {σ : Env} {e : World} {L : List Res} {all : Array Oper} {rest : List Oper}
variable {d : Nat} {op : Op} {ty : TypeId} {pos : String} {af : Array Edge}

theorem O.nil (h : Fin Q .normal σ e L) : O P N all [] Q σ e L := fun _ w ha hs => ⟨σ, ha, h w hs⟩
theorem O.do {dst : Option Tmp} (h : Do P N ⟨dst, op, ty, pos, af, none⟩ (fun σ' L' => O P N all rest Q σ' e L') σ e L) : O P N all (⟨dst, op, ty, pos, af, none⟩ :: rest) Q σ e L :=
  fun a w ha hs => wpList_plain rfl fun K hK => h a w ha hs K _ fun _ _ a' w' ho ha' hs' => hK a' w' (ho a' w' ha' hs')
theorem Do.val {v : Value} {gd : Option (Nat × Bool)} {K : Env → List Res → Prop} (h : Val P N op ty v σ e L) (hd : Nat.blt d N.n = true) (k : K ((d, v) :: σ) L) : Do P N ⟨some d, op, ty, pos, af, gd⟩ K σ e L := by
  intro a w ha hs K' Q' hK
  unfold Oper.wp
  rw [h a w ha hs]
  exact hK _ _ _ _ k (ha.put hd v) hs
theorem O.val (v : Value) (h : Val P N op ty v σ e L) (hd : Nat.blt d N.n = true) (k : O P N all rest Q ((d, v) :: σ) e L) : O P N all (⟨some d, op, ty, pos, af, none⟩ :: rest) Q σ e L :=
  O.do (Do.val h hd k)
theorem O.ent1 {l : List Oper} {L' : List Res} (f : Ent L L') (h : O P N all l Q σ e L') : O P N all l Q σ e L := h.ent f

/-- Is a guarded operation wanted? -/
def wants (σ : Env) (all : Array Oper) (j : Nat) (want : Bool) : Option Bool :=
  match (all[j]?).bind (·.dst) with
  | some t => match get σ t with
    | some (.bool b) => some (b == want)
    | some (.tuple _) => some false
    | _ => none
  | none => none
theorem wants_ok {a : Act} {j : Nat} {want r : Bool} (ha : Has N σ a) (h : wants σ all j want = some r) {dst : Option Tmp} :
    Region.wanted ⟨dst, op, ty, pos, af, some (j, want)⟩ (yielded all a.tmps) = r := by
  unfold wants at h
  cases ht : (all[j]?).bind (·.dst) with
  | none => rw [ht] at h; cases h
  | some t =>
    rw [ht] at h
    have hy : yielded all a.tmps j = match a.tmps[t]? with | some (.bool b) => some b | _ => none := by
      unfold yielded
      exact congrArg (fun o : Option Nat => match o.bind (a.tmps[·]?) with | some (.bool b) => some b | _ => none) ht
    unfold Region.wanted
    dsimp only at h ⊢
    rw [hy]
    cases hg : get σ t with
    | none => rw [hg] at h; cases h
    | some v =>
      rw [hg] at h
      rw [ha.val t v hg]
      cases v <;> simp at h ⊢ <;> exact h
theorem O.want {dst : Option Tmp} {j : Nat} {want : Bool} (h : wants σ all j want = some true) (k : O P N all (⟨dst, op, ty, pos, af, none⟩ :: rest) Q σ e L) :
    O P N all (⟨dst, op, ty, pos, af, some (j, want)⟩ :: rest) Q σ e L := fun a w ha hs => by
  have h1 := k a w ha hs
  unfold wpList at h1 ⊢
  rw [if_pos (by rfl)] at h1
  rw [if_pos (wants_ok ha h)]
  exact h1
theorem O.unwant {j : Nat} {want : Bool} (h : wants σ all j want = some false) (hd : Nat.blt d N.n = true) (k : O P N all rest Q ((d, undef) :: σ) e L) :
    O P N all (⟨some d, op, ty, pos, af, some (j, want)⟩ :: rest) Q σ e L := fun a w ha hs => by
  unfold wpList
  rw [if_neg (by rw [wants_ok ha h]; simp)]
  exact k _ w (ha.put hd _) hs
theorem O.unwant0 {j : Nat} {want : Bool} (h : wants σ all j want = some false) (k : O P N all rest Q σ e L) :
    O P N all (⟨none, op, ty, pos, af, some (j, want)⟩ :: rest) Q σ e L := fun a w ha hs => by
  unfold wpList
  rw [if_neg (by rw [wants_ok ha h]; simp)]
  exact k _ w ha hs

/-! ### values -/
section
variable {x y z : Operand} {v : Value}
theorem Val.move (h : ev σ x = some v) : Val P N (.move x) ty v σ e L := fun a w ha _ _ _ _ _ => by simp [execOp, ha.ev h]
theorem Val.assign (h : ev σ x = some v) : Val P N (.assign x) ty v σ e L := fun a w ha _ _ _ _ _ => by simp [execOp, ha.ev h]
theorem Val.pick_t (h : ev σ x = some (.bool true)) (h1 : ev σ y = some v) : Val P N (.pick x y z) ty v σ e L := fun a w ha _ _ _ _ _ => by simp [execOp, ha.ev h, ha.ev h1, asBool]
theorem Val.pick_f (h : ev σ x = some (.bool false)) (h1 : ev σ z = some v) : Val P N (.pick x y z) ty v σ e L := fun a w ha _ _ _ _ _ => by simp [execOp, ha.ev h, ha.ev h1, asBool]
theorem Val.nilCheck {p : Addr} (h : ev σ x = some (.pointer (some p))) : Val P N (.nilCheck x) ty (.pointer (some p)) σ e L := fun a w ha _ _ _ _ _ => by simp [execOp, ha.ev h]
theorem Val.fieldAddr {s f off g o : Nat} [i : FieldT P s f off] (h : ev σ x = some (.pointer (some ⟨g, o, none⟩))) :
    Val P N (.fieldAddr s x f) ty (.pointer (some ⟨g, o + off, none⟩)) σ e L := fun a w ha _ _ _ _ _ => by simp [execOp, ha.ev h, i.run]
theorem Val.load {t : TypeId} {p : Addr} [i : PlainT P t] (h : ev σ x = some (.pointer (some p))) (r : Rd L p v) : Val P N (.load t x) ty v σ e L := fun a w ha hs _ _ _ _ => by
  simp [execOp, ha.ev h, Instr.loadAt, Instr.sureAddr, loadVar, i.ag, r.at hs]
theorem Val.len {t : TypeId} {el n l c : Nat} {ad : Option Addr} {ats : List TypeId} [i : SlT P t el n] (h : ev σ x = some (.slice ad l c)) :
    Val P N (.call { callee := .builtin .len, args := #[x], argTypes := (t :: ats).toArray }) ty (.int .i64 l) σ e L := fun a w ha _ _ _ _ _ => by
  simp [execOp, resolve, invoke, builtin, Builtin.len_, ha.ev h, run_underlying i.und, goInt]
theorem Val.lenS {t : TypeId} {s : ByteArray} {ats : List TypeId} [i : StrT P t] (h : ev σ x = some (.string s)) :
    Val P N (.call { callee := .builtin .len, args := #[x], argTypes := (t :: ats).toArray }) ty (.int .i64 s.size) σ e L := fun a w ha _ _ _ _ _ => by
  simp [execOp, resolve, invoke, builtin, Builtin.len_, ha.ev h, run_underlying i.und, goInt]
theorem Val.not {b : Bool} {t : TypeId} (h : ev σ x = some (.bool b)) : Val P N (.unOp .not t x) ty (.bool !b) σ e L := fun a w ha _ _ _ _ _ => by simp [execOp, ha.ev h, Op.unary]

theorem wrap_in {k : IntKind} {n : Int} (h : k.wrap n = n) {m : Int} (e : m = n) : k.wrap m = n := by rw [e, h]
theorem wrap_i64 {n : Int} (h0 : -9223372036854775808 ≤ n) (h1 : n ≤ 9223372036854775807) : IntKind.i64.wrap n = n := IntWalk.i64_in n ⟨h0, h1⟩
theorem wrap_u32 {n : Int} (h0 : 0 ≤ n) (h1 : n < 4294967296) : IntKind.u32.wrap n = n := by
  unfold IntKind.wrap
  simp only [IntKind.bits, IntKind.signed]
  simp
  omega
theorem wrap_u8 {n : Int} (h0 : 0 ≤ n) (h1 : n < 256) : IntKind.u8.wrap n = n := by
  unfold IntKind.wrap
  simp only [IntKind.bits, IntKind.signed]
  simp
  omega
section ints
variable {k k' : IntKind} {m n : Int} {t t' : TypeId}
theorem Val.add (h : ev σ x = some (.int k m)) (h1 : ev σ y = some (.int k n)) : Val P N (.binOp .add t x y t') ty (.int k (k.wrap (m + n))) σ e L := fun a w ha _ _ _ _ _ => by
  simp [execOp, ha.ev h, ha.ev h1, eqGuard, binOp, Op.intArith]
theorem Val.sub (h : ev σ x = some (.int k m)) (h1 : ev σ y = some (.int k n)) : Val P N (.binOp .sub t x y t') ty (.int k (k.wrap (m - n))) σ e L := fun a w ha _ _ _ _ _ => by
  simp [execOp, ha.ev h, ha.ev h1, eqGuard, binOp, Op.intArith]
theorem Val.mul (h : ev σ x = some (.int k m)) (h1 : ev σ y = some (.int k n)) : Val P N (.binOp .mul t x y t') ty (.int k (k.wrap (m * n))) σ e L := fun a w ha _ _ _ _ _ => by
  simp [execOp, ha.ev h, ha.ev h1, eqGuard, binOp, Op.intArith]
theorem Val.add64 (h : ev σ x = some (.int .i64 m)) (h1 : ev σ y = some (.int .i64 n)) (b : -9223372036854775808 ≤ m + n ∧ m + n ≤ 9223372036854775807) : Val P N (.binOp .add t x y t') ty (.int .i64 (m + n)) σ e L := by
  have := Val.add (P := P) (N := N) (ty := ty) (e := e) (L := L) (t := t) (t' := t') h h1
  rwa [wrap_i64 b.1 b.2] at this
theorem Val.sub64 (h : ev σ x = some (.int .i64 m)) (h1 : ev σ y = some (.int .i64 n)) (b : -9223372036854775808 ≤ m - n ∧ m - n ≤ 9223372036854775807) : Val P N (.binOp .sub t x y t') ty (.int .i64 (m - n)) σ e L := by
  have := Val.sub (P := P) (N := N) (ty := ty) (e := e) (L := L) (t := t) (t' := t') h h1
  rwa [wrap_i64 b.1 b.2] at this
theorem Val.mul64 (h : ev σ x = some (.int .i64 m)) (h1 : ev σ y = some (.int .i64 n)) (b : -9223372036854775808 ≤ m * n ∧ m * n ≤ 9223372036854775807) : Val P N (.binOp .mul t x y t') ty (.int .i64 (m * n)) σ e L := by
  have := Val.mul (P := P) (N := N) (ty := ty) (e := e) (L := L) (t := t) (t' := t') h h1
  rwa [wrap_i64 b.1 b.2] at this
theorem Val.bits (op : BinOp) (ho : op = .and ∨ op = .or ∨ op = .xor ∨ op = .andNot) (h : ev σ x = some (.int k m)) (h1 : ev σ y = some (.int k n)) : Val P N (.binOp op t x y t') ty (.int k (Go.bits op k m n)) σ e L := fun a w ha _ _ _ _ _ => by
  rcases ho with rfl | rfl | rfl | rfl <;> simp [execOp, ha.ev h, ha.ev h1, eqGuard, binOp, Op.intBits, Go.bits]
theorem Val.shl (h : ev σ x = some (.int k m)) (h1 : ev σ y = some (.int k' n)) (h0 : 0 ≤ n) : Val P N (.binOp .shl t x y t') ty (.int k (k.wrap (m * 2 ^ (min n.toNat k.bits)))) σ e L := fun a w ha _ _ _ _ _ => by
  have : ¬ n < 0 := by omega
  simp [execOp, ha.ev h, ha.ev h1, eqGuard, binOp, Op.shift, this]
theorem Val.shr (h : ev σ x = some (.int k m)) (h1 : ev σ y = some (.int k' n)) (h0 : 0 ≤ n) : Val P N (.binOp .shr t x y t') ty (.int k (m.fdiv (2 ^ (min n.toNat k.bits)))) σ e L := fun a w ha _ _ _ _ _ => by
  have : ¬ n < 0 := by omega
  simp [execOp, ha.ev h, ha.ev h1, eqGuard, binOp, Op.shift, this]
theorem Val.convInt {s : TypeId} [i : IntT P s k] [j : IntT P t k'] (h : ev σ x = some (.int k m)) : Val P N (.convert s t x) ty (.int k' (k'.wrap m)) σ e L := fun a w ha _ _ _ _ _ => by
  simp [execOp, ha.ev h, convert, run_underlying i.und, run_underlying j.und, Conv.intToInt]
theorem Val.lss (h : ev σ x = some (.int k m)) (h1 : ev σ y = some (.int k n)) : Val P N (.binOp .lss t x y t') ty (.bool (decide (m < n))) σ e L := fun a w ha _ _ _ _ _ => by
  simp [execOp, ha.ev h, ha.ev h1, eqGuard, binOp, Op.intCmp]
theorem Val.leq (h : ev σ x = some (.int k m)) (h1 : ev σ y = some (.int k n)) : Val P N (.binOp .leq t x y t') ty (.bool (decide (m ≤ n))) σ e L := fun a w ha _ _ _ _ _ => by
  simp [execOp, ha.ev h, ha.ev h1, eqGuard, binOp, Op.intCmp]
theorem Val.gtr (h : ev σ x = some (.int k m)) (h1 : ev σ y = some (.int k n)) : Val P N (.binOp .gtr t x y t') ty (.bool (decide (n < m))) σ e L := fun a w ha _ _ _ _ _ => by
  simp [execOp, ha.ev h, ha.ev h1, eqGuard, binOp, Op.intCmp]
theorem Val.geq (h : ev σ x = some (.int k m)) (h1 : ev σ y = some (.int k n)) : Val P N (.binOp .geq t x y t') ty (.bool (decide (n ≤ m))) σ e L := fun a w ha _ _ _ _ _ => by
  simp [execOp, ha.ev h, ha.ev h1, eqGuard, binOp, Op.intCmp]
theorem Val.eql (h : ev σ x = some (.int k m)) (h1 : ev σ y = some (.int k n)) : Val P N (.binOp .eql t x y t') ty (.bool (decide (m = n))) σ e L := fun a w ha _ _ _ _ _ => by
  simp [execOp, ha.ev h, ha.ev h1, eqGuard, binOp, Op.intCmp]
  by_cases hmn : m = n <;> simp [hmn]
theorem Val.neq (h : ev σ x = some (.int k m)) (h1 : ev σ y = some (.int k n)) : Val P N (.binOp .neq t x y t') ty (.bool (decide (m ≠ n))) σ e L := fun a w ha _ _ _ _ _ => by
  simp [execOp, ha.ev h, ha.ev h1, eqGuard, binOp, Op.intCmp]
  by_cases hmn : m = n <;> simp [hmn]
end ints
section nils
variable {t t' : TypeId}
theorem Val.eqlPtr {el : TypeId} {p : Option Addr} [i : PtrT P t el] (h : ev σ x = some (.pointer p)) (h1 : ev σ y = some (.pointer none)) : Val P N (.binOp .eql t x y t') ty (.bool p.isNone) σ e L := fun a w ha _ _ _ _ _ => by
  have := run_eql_pointer_nil (P := P) w t p (by simp [Program.pointee, i.und])
  simp [execOp, ha.ev h, ha.ev h1, eqGuard, this]
theorem Val.neqPtr {el : TypeId} {p : Option Addr} [i : PtrT P t el] (h : ev σ x = some (.pointer p)) (h1 : ev σ y = some (.pointer none)) : Val P N (.binOp .neq t x y t') ty (.bool !p.isNone) σ e L := fun a w ha _ _ _ _ _ => by
  have := run_neq_pointer_nil (P := P) w t p (by simp [Program.pointee, i.und])
  simp [execOp, ha.ev h, ha.ev h1, eqGuard, this]
theorem run_equalIn_sl {t el : TypeId} (i : P.underlying t = some (.slice el)) (w : World) (d : Nat) (p : Option Addr) (l c : Nat) : (Op.equalIn (d + 1) t (.slice p l c) (.slice none 0 0)).run P w = .ok p.isNone w := by
  cases p <;> simp [Op.equalIn, run_underlying i]
theorem run_equal_sl {t el : TypeId} (i : P.underlying t = some (.slice el)) (w : World) (p : Option Addr) (l c : Nat) : (Op.equal t (.slice p l c) (.slice none 0 0)).run P w = .ok p.isNone w := run_equalIn_sl i w 9999 p l c
theorem run_eql_sl {t el : TypeId} (i : P.underlying t = some (.slice el)) (w : World) (p : Option Addr) (l c : Nat) : (binOp .eql t (.slice p l c) (.slice none 0 0)).run P w = .ok (.bool p.isNone) w := by
  simp only [binOp]; simp [run_equal_sl i]
theorem run_neq_sl {t el : TypeId} (i : P.underlying t = some (.slice el)) (w : World) (p : Option Addr) (l c : Nat) : (binOp .neq t (.slice p l c) (.slice none 0 0)).run P w = .ok (.bool !p.isNone) w := by
  simp only [binOp]; simp [run_equal_sl i]
theorem Val.eqlSl {el n l c : Nat} {p : Option Addr} [i : SlT P t el n] (h : ev σ x = some (.slice p l c)) (h1 : ev σ y = some (.slice none 0 0)) : Val P N (.binOp .eql t x y t') ty (.bool p.isNone) σ e L := fun a w ha _ _ _ _ _ => by
  simp [execOp, ha.ev h, ha.ev h1, eqGuard, run_eql_sl i.und]
theorem Val.neqSl {el n l c : Nat} {p : Option Addr} [i : SlT P t el n] (h : ev σ x = some (.slice p l c)) (h1 : ev σ y = some (.slice none 0 0)) : Val P N (.binOp .neq t x y t') ty (.bool !p.isNone) σ e L := fun a w ha _ _ _ _ _ => by
  simp [execOp, ha.ev h, ha.ev h1, eqGuard, run_neq_sl i.und]
theorem Val.eqlS {s u : ByteArray} (h : ev σ x = some (.string s)) (h1 : ev σ y = some (.string u)) : Val P N (.binOp .eql t x y t') ty (.bool (s.toList == u.toList)) σ e L := fun a w ha _ _ _ _ _ => by
  simp [execOp, ha.ev h, ha.ev h1, eqGuard, binOp, Op.stringOp]
theorem Val.neqS {s u : ByteArray} (h : ev σ x = some (.string s)) (h1 : ev σ y = some (.string u)) : Val P N (.binOp .neq t x y t') ty (.bool !(s.toList == u.toList)) σ e L := fun a w ha _ _ _ _ _ => by
  simp [execOp, ha.ev h, ha.ev h1, eqGuard, binOp, Op.stringOp]
end nils
end
end
end Go.Bs
