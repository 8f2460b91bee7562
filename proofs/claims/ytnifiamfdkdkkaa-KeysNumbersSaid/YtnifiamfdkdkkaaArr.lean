/- Arrays; words of 32 bits. -/
import Derived.Test.YtnifiamfdkdkkaaRules
namespace Go.Bs
set_option linter.unusedVariables false
set_option linter.unusedSimpArgs false
class ArrT (P : Program) (t : TypeId) (len : outParam Nat) (el : outParam TypeId) (n : outParam Nat) : Prop where
  und : P.underlying t = some (.array len el)
  siz : ∀ w, (sizeOf el).run P w = .ok n w
/-- A word. -/
def u32v (a : UInt32) : Value := .int .u32 (a.toNat : Int)
theorem u32v_one (l : List UInt32) : ∀ c ∈ l.map u32v, c.oneCell' = true := fun c hc => by
  obtain ⟨x, _, rfl⟩ := List.mem_map.1 hc
  rfl
theorem w32 (n : Nat) : IntKind.u32.wrap (n : Int) = ((n % 4294967296 : Nat) : Int) := by
  unfold IntKind.wrap
  simp only [IntKind.bits, IntKind.signed]
  simp
theorem w8 (n : Nat) : IntKind.u8.wrap (n : Int) = ((n % 256 : Nat) : Int) := by
  unfold IntKind.wrap
  simp only [IntKind.bits, IntKind.signed]
  simp
theorem u32_add (a b : UInt32) : IntKind.u32.wrap ((a.toNat : Int) + (b.toNat : Int)) = ((a + b).toNat : Int) := by
  rw [← Int.natCast_add, w32, UInt32.toNat_add]
theorem u32_ofInt (a : UInt32) : BitVec.ofInt 32 (a.toNat : Int) = a.toBitVec := by
  apply BitVec.eq_of_toNat_eq
  simp
theorem u32_and (a b : UInt32) : Go.bits .and .u32 (a.toNat : Int) (b.toNat : Int) = ((a &&& b).toNat : Int) := by
  show IntKind.u32.wrap (((BitVec.ofInt 32 (a.toNat : Int) &&& BitVec.ofInt 32 (b.toNat : Int)).toNat : Nat) : Int) = _
  rw [u32_ofInt, u32_ofInt]
  show IntKind.u32.wrap (((a &&& b).toNat : Nat) : Int) = _
  rw [w32, Nat.mod_eq_of_lt (a &&& b).toNat_lt]
theorem u32_or (a b : UInt32) : Go.bits .or .u32 (a.toNat : Int) (b.toNat : Int) = ((a ||| b).toNat : Int) := by
  show IntKind.u32.wrap (((BitVec.ofInt 32 (a.toNat : Int) ||| BitVec.ofInt 32 (b.toNat : Int)).toNat : Nat) : Int) = _
  rw [u32_ofInt, u32_ofInt]
  show IntKind.u32.wrap (((a ||| b).toNat : Nat) : Int) = _
  rw [w32, Nat.mod_eq_of_lt (a ||| b).toNat_lt]
theorem u32_xor (a b : UInt32) : Go.bits .xor .u32 (a.toNat : Int) (b.toNat : Int) = ((a ^^^ b).toNat : Int) := by
  show IntKind.u32.wrap (((BitVec.ofInt 32 (a.toNat : Int) ^^^ BitVec.ofInt 32 (b.toNat : Int)).toNat : Nat) : Int) = _
  rw [u32_ofInt, u32_ofInt]
  show IntKind.u32.wrap (((a ^^^ b).toNat : Nat) : Int) = _
  rw [w32, Nat.mod_eq_of_lt (a ^^^ b).toNat_lt]
theorem u32_shr (a : UInt32) (n : Int) (h : 0 ≤ n ∧ n < 32) : ((a.toNat : Int)).fdiv (2 ^ (min n.toNat 32)) = ((a >>> UInt32.ofNat n.toNat).toNat : Int) := by
  obtain ⟨m, rfl⟩ := Int.eq_ofNat_of_zero_le h.1
  have hm : m < 32 := by omega
  rw [UInt32.toNat_shiftRight, Int.toNat_natCast, Nat.min_eq_left (by omega), UInt32.toNat_ofNat_of_lt' (by simp only [UInt32.size]; omega), Nat.mod_eq_of_lt hm, Nat.shiftRight_eq_div_pow]
  rw [Int.fdiv_eq_ediv_of_nonneg _ (Int.pow_nonneg (by decide))]
  simp
theorem u32_shl (a : UInt32) (n : Int) (h : 0 ≤ n ∧ n < 32) : IntKind.u32.wrap ((a.toNat : Int) * (2 ^ (min n.toNat 32))) = ((a <<< UInt32.ofNat n.toNat).toNat : Int) := by
  obtain ⟨m, rfl⟩ := Int.eq_ofNat_of_zero_le h.1
  have hm : m < 32 := by omega
  rw [UInt32.toNat_shiftLeft, Int.toNat_natCast, Nat.min_eq_left (by omega), UInt32.toNat_ofNat_of_lt' (by simp only [UInt32.size]; omega), Nat.mod_eq_of_lt hm, Nat.shiftLeft_eq]
  rw [show ((a.toNat : Int) * 2 ^ m) = ((a.toNat * 2 ^ m : Nat) : Int) by simp, w32]
section
variable {P : Program} {N : Fr} {Q : Goal} {σ : Env} {e : World} {L : List Res} {all : Array Oper} {rest : List Oper}
variable {d : Nat} {op : Op} {ty : TypeId} {pos : String} {af : Array Edge} {gd : Option (Nat × Bool)} {K : Env → List Res → Prop} {x y : Operand} {t t' : TypeId} {k k' : IntKind} {a b : UInt32}
theorem Val.addU (h : ev σ x = some (u32v a)) (h1 : ev σ y = some (u32v b)) : Val P N (.binOp .add t x y t') ty (u32v (a + b)) σ e L := by
  have := Val.add (P := P) (N := N) (ty := ty) (e := e) (L := L) (t := t) (t' := t') h h1
  rw [u32_add] at this
  exact this
theorem Val.xorU (h : ev σ x = some (u32v a)) (h1 : ev σ y = some (u32v b)) : Val P N (.binOp .xor t x y t') ty (u32v (a ^^^ b)) σ e L := by
  have := Val.bits (P := P) (N := N) (ty := ty) (e := e) (L := L) (t := t) (t' := t') .xor (by simp) h h1
  rw [u32_xor] at this
  exact this
theorem Val.andU (h : ev σ x = some (u32v a)) (h1 : ev σ y = some (u32v b)) : Val P N (.binOp .and t x y t') ty (u32v (a &&& b)) σ e L := by
  have := Val.bits (P := P) (N := N) (ty := ty) (e := e) (L := L) (t := t) (t' := t') .and (by simp) h h1
  rw [u32_and] at this
  exact this
theorem Val.orU (h : ev σ x = some (u32v a)) (h1 : ev σ y = some (u32v b)) : Val P N (.binOp .or t x y t') ty (u32v (a ||| b)) σ e L := by
  have := Val.bits (P := P) (N := N) (ty := ty) (e := e) (L := L) (t := t) (t' := t') .or (by simp) h h1
  rw [u32_or] at this
  exact this
theorem Val.shrU {n : Int} (h : ev σ x = some (u32v a)) (h1 : ev σ y = some (.int k' n)) (h0 : 0 ≤ n ∧ n < 32) : Val P N (.binOp .shr t x y t') ty (u32v (a >>> UInt32.ofNat n.toNat)) σ e L := by
  have := Val.shr (P := P) (N := N) (ty := ty) (e := e) (L := L) (t := t) (t' := t') h h1 h0.1
  rw [show IntKind.u32.bits = 32 from rfl, u32_shr a n h0] at this
  exact this
theorem Val.shlU {n : Int} (h : ev σ x = some (u32v a)) (h1 : ev σ y = some (.int k' n)) (h0 : 0 ≤ n ∧ n < 32) : Val P N (.binOp .shl t x y t') ty (u32v (a <<< UInt32.ofNat n.toNat)) σ e L := by
  have := Val.shl (P := P) (N := N) (ty := ty) (e := e) (L := L) (t := t) (t' := t') h h1 h0.1
  rw [show IntKind.u32.bits = 32 from rfl, u32_shl a n h0] at this
  exact this
theorem Val.compU (h : ev σ x = some (u32v a)) : Val P N (.unOp .xor t x) ty (u32v (~~~a)) σ e L := fun b w ha _ _ _ _ _ => by
  have h1 := u32_xor (UInt32.ofNat 4294967295) a
  have h2 : UInt32.ofNat 4294967295 ^^^ a = ~~~a := by
    apply UInt32.eq_of_toBitVec_eq
    rw [UInt32.toBitVec_xor, UInt32.toBitVec_not, ← BitVec.allOnes_xor]
    rfl
  rw [h2] at h1
  have h3 : IntKind.u32.max = ((UInt32.ofNat 4294967295).toNat : Int) := rfl
  simp only [execOp, ha.ev h, u32v, Op.unary, IntKind.signed, Bool.false_eq_true, if_false, h3, intBits_xor, h1]
  simp
theorem Val.neg {m : Int} (h : ev σ x = some (.int k m)) : Val P N (.unOp .neg t x) ty (.int k (k.wrap (0 - m))) σ e L := fun b w ha _ _ _ _ _ => by
  simp [execOp, ha.ev h, Op.unary, Op.intArith]
theorem Val.convU8 {s : TypeId} [i : IntT P s .u32] [j : IntT P t .u8] (h : ev σ x = some (u32v a)) : Val P N (.convert s t x) ty (u8 a.toUInt8) σ e L := by
  have := Val.convInt (P := P) (N := N) (ty := ty) (e := e) (L := L) (s := s) (t := t) h
  rw [w8] at this
  exact this
theorem Val.conv8U {s : TypeId} [i : IntT P s .u8] [j : IntT P t .u32] {c : UInt8} (h : ev σ x = some (u8 c)) : Val P N (.convert s t x) ty (u32v c.toUInt32) σ e L := by
  have := Val.convInt (P := P) (N := N) (ty := ty) (e := e) (L := L) (s := s) (t := t) h
  rw [w32, Nat.mod_eq_of_lt (by have := c.toNat_lt; omega)] at this
  exact this
/-- An array's element's place. -/
theorem Val.indexAddrA {len el n g o : Nat} {i : Int} [s : ArrT P t len el n] (h : ev σ x = some (.pointer (some ⟨g, o, none⟩))) (h1 : ev σ y = some (.int k i)) (h0 : 0 ≤ i ∧ i < len) :
    Val P N (.indexAddr t x y) ty (.pointer (some ⟨g, o + i.toNat * n, none⟩)) σ e L := fun a w ha _ _ _ _ _ => by
  have h2 : ¬ (i < 0) := by omega
  simp [execOp, ha.ev h, ha.ev h1, Instr.indexAt, run_underlying s.und, asIntOf, h0.1, h0.2, s.siz, Instr.sureAddr, Addr.add_lit]
theorem Val.indexAddrA1 {len el g o i : Nat} [s : ArrT P t len el 1] (h : ev σ x = some (.pointer (some ⟨g, o, none⟩))) (h1 : ev σ y = some (.int k (i : Int))) (h0 : i < len) :
    Val P N (.indexAddr t x y) ty (.pointer (some ⟨g, o + i, none⟩)) σ e L := by
  have := Val.indexAddrA (P := P) (N := N) (ty := ty) (e := e) (L := L) (t := t) h h1 ⟨by omega, by omega⟩
  simpa using this
/-- An array's element. -/
theorem Val.indexA {len el i : Nat} {cs : List Value} {v : Value} [s : ArrT P t len el 1] [q : PlainT P el] (h : ev σ x = some (.agg cs.toArray)) (h1 : ev σ y = some (.int k (i : Int))) (h0 : i < len) (hv : cs[i]? = some v) :
    Val P N (.index t x y) ty v σ e L := fun a w ha _ _ _ _ _ => by
  have hc : (cs.toArray)[i]? = some v := by simpa using hv
  simp [execOp, ha.ev h, ha.ev h1, Instr.index, run_underlying s.und, asIntOf, h0, s.siz, part, q.ag, hv]
theorem Val.buildArr {len el n : Nat} {z : Value} {parts : List (Nat × Operand)} {vs : List (Nat × Value)} {cs : List Value} [s : ArrT P t len el n] [j : ZeroT P t z] (h : evp σ parts = some vs) (hlen : vs.length = len) (hz : z.cells.size = len * n) (hc : Parts n 0 vs cs) :
    Val P N (.build t parts.toArray) ty (.agg cs.toArray) σ e L := fun a w ha _ _ _ _ _ => by
  have hpv : (parts.toArray.map fun x => match x with | (i, x) => (i, a.eval x)).toList = vs := by
    have := ha.evp h
    simpa using this
  have hf := hc.fill z.cells (by rw [Nat.zero_add, hlen]; exact hz)
  simp only [Nat.zero_mul, List.take_zero, List.nil_append] at hf
  have h3 : (Instr.build t (parts.toArray.map fun x => match x with | (i, x) => (i, a.eval x))).run P w = .ok (.agg cs.toArray) w := by
    unfold Instr.build
    rw [hpv]
    simp only [Sem.run_bind, j.run, Result.andThen_ok, run_underlying s.und, s.siz, hf]
    rfl
  simp only [execOp, Sem.run_bind, Sem.run_pure, h3, Result.andThen_ok]
theorem O.addU (h : ev σ x = some (u32v a)) (h1 : ev σ y = some (u32v b)) (hd : Nat.blt d N.n = true) (kk : O P N all rest Q ((d, u32v (a + b)) :: σ) e L) : O P N all (⟨some d, .binOp .add t x y t', ty, pos, af, none⟩ :: rest) Q σ e L := O.val _ (Val.addU h h1) hd kk
theorem O.xorU (h : ev σ x = some (u32v a)) (h1 : ev σ y = some (u32v b)) (hd : Nat.blt d N.n = true) (kk : O P N all rest Q ((d, u32v (a ^^^ b)) :: σ) e L) : O P N all (⟨some d, .binOp .xor t x y t', ty, pos, af, none⟩ :: rest) Q σ e L := O.val _ (Val.xorU h h1) hd kk
theorem O.andU (h : ev σ x = some (u32v a)) (h1 : ev σ y = some (u32v b)) (hd : Nat.blt d N.n = true) (kk : O P N all rest Q ((d, u32v (a &&& b)) :: σ) e L) : O P N all (⟨some d, .binOp .and t x y t', ty, pos, af, none⟩ :: rest) Q σ e L := O.val _ (Val.andU h h1) hd kk
theorem O.orU (h : ev σ x = some (u32v a)) (h1 : ev σ y = some (u32v b)) (hd : Nat.blt d N.n = true) (kk : O P N all rest Q ((d, u32v (a ||| b)) :: σ) e L) : O P N all (⟨some d, .binOp .or t x y t', ty, pos, af, none⟩ :: rest) Q σ e L := O.val _ (Val.orU h h1) hd kk
theorem O.shrU {n : Int} (h : ev σ x = some (u32v a)) (h1 : ev σ y = some (.int k' n)) (h0 : 0 ≤ n ∧ n < 32) (hd : Nat.blt d N.n = true) (kk : O P N all rest Q ((d, u32v (a >>> UInt32.ofNat n.toNat)) :: σ) e L) : O P N all (⟨some d, .binOp .shr t x y t', ty, pos, af, none⟩ :: rest) Q σ e L := O.val _ (Val.shrU h h1 h0) hd kk
theorem O.shlU {n : Int} (h : ev σ x = some (u32v a)) (h1 : ev σ y = some (.int k' n)) (h0 : 0 ≤ n ∧ n < 32) (hd : Nat.blt d N.n = true) (kk : O P N all rest Q ((d, u32v (a <<< UInt32.ofNat n.toNat)) :: σ) e L) : O P N all (⟨some d, .binOp .shl t x y t', ty, pos, af, none⟩ :: rest) Q σ e L := O.val _ (Val.shlU h h1 h0) hd kk
theorem O.compU (h : ev σ x = some (u32v a)) (hd : Nat.blt d N.n = true) (kk : O P N all rest Q ((d, u32v (~~~a)) :: σ) e L) : O P N all (⟨some d, .unOp .xor t x, ty, pos, af, none⟩ :: rest) Q σ e L := O.val _ (Val.compU h) hd kk
theorem O.neg {m : Int} (h : ev σ x = some (.int k m)) (hd : Nat.blt d N.n = true) (kk : O P N all rest Q ((d, .int k (k.wrap (0 - m))) :: σ) e L) : O P N all (⟨some d, .unOp .neg t x, ty, pos, af, none⟩ :: rest) Q σ e L := O.val _ (Val.neg h) hd kk
theorem O.convU8 {s : TypeId} [i : IntT P s .u32] [j : IntT P t .u8] (h : ev σ x = some (u32v a)) (hd : Nat.blt d N.n = true) (kk : O P N all rest Q ((d, u8 a.toUInt8) :: σ) e L) : O P N all (⟨some d, .convert s t x, ty, pos, af, none⟩ :: rest) Q σ e L := O.val _ (Val.convU8 h) hd kk
theorem O.conv8U {s : TypeId} [i : IntT P s .u8] [j : IntT P t .u32] {c : UInt8} (h : ev σ x = some (u8 c)) (hd : Nat.blt d N.n = true) (kk : O P N all rest Q ((d, u32v c.toUInt32) :: σ) e L) : O P N all (⟨some d, .convert s t x, ty, pos, af, none⟩ :: rest) Q σ e L := O.val _ (Val.conv8U h) hd kk
theorem O.indexAddrA1 {len el g o i : Nat} [s : ArrT P t len el 1] (h : ev σ x = some (.pointer (some ⟨g, o, none⟩))) (h1 : ev σ y = some (.int k (i : Int))) (h0 : i < len) (hd : Nat.blt d N.n = true) (kk : O P N all rest Q ((d, .pointer (some ⟨g, o + i, none⟩)) :: σ) e L) : O P N all (⟨some d, .indexAddr t x y, ty, pos, af, none⟩ :: rest) Q σ e L := O.val _ (Val.indexAddrA1 h h1 h0) hd kk
theorem O.indexAddrA {len el n g o : Nat} {i : Int} [s : ArrT P t len el n] (h : ev σ x = some (.pointer (some ⟨g, o, none⟩))) (h1 : ev σ y = some (.int k i)) (h0 : 0 ≤ i ∧ i < len) (hd : Nat.blt d N.n = true) (kk : O P N all rest Q ((d, .pointer (some ⟨g, o + i.toNat * n, none⟩)) :: σ) e L) : O P N all (⟨some d, .indexAddr t x y, ty, pos, af, none⟩ :: rest) Q σ e L := O.val _ (Val.indexAddrA h h1 h0) hd kk
theorem O.indexA {len el i : Nat} {cs : List Value} {v : Value} [s : ArrT P t len el 1] [q : PlainT P el] (h : ev σ x = some (.agg cs.toArray)) (h1 : ev σ y = some (.int k (i : Int))) (h0 : i < len) (hv : cs[i]? = some v) (hd : Nat.blt d N.n = true) (kk : O P N all rest Q ((d, v) :: σ) e L) : O P N all (⟨some d, .index t x y, ty, pos, af, none⟩ :: rest) Q σ e L := O.val _ (Val.indexA h h1 h0 hv) hd kk
theorem O.buildArr {len el n : Nat} {z : Value} {parts : List (Nat × Operand)} {vs : List (Nat × Value)} {cs : List Value} [s : ArrT P t len el n] [j : ZeroT P t z] (h : evp σ parts = some vs) (hlen : vs.length = len) (hz : z.cells.size = len * n) (hc : Parts n 0 vs cs) (hd : Nat.blt d N.n = true) (kk : O P N all rest Q ((d, .agg cs.toArray) :: σ) e L) : O P N all (⟨some d, .build t parts.toArray, ty, pos, af, none⟩ :: rest) Q σ e L := O.val _ (Val.buildArr h hlen hz hc) hd kk
theorem A.of_sep {ops : Array Oper} {T : List Nat} {R0 : List Res} {n : Nat} {l : Array Bool} {p : Prop} (f : ∀ h, sepL L h → p) (h : p → A P N ops T R0 n l Q σ e L) : A P N ops T R0 n l Q σ e L := fun a w ha hs => h (f _ hs.2.2.2) a w ha hs
/-- 'make([]T, 0, c)'. -/
theorem Do.make0 {el nn b c : Nat} {z : Value} {k1 k2 : IntKind} [i : SlT P t el nn] [j : ElT P el z nn b] (hx : ev σ x = some (.int k1 0)) (hy : ev σ y = some (.int k2 (c : Int))) (hd : Nat.blt d N.n = true) (h63 : c ≤ maxLen) (hb : c * b ≤ 140737488355328)
    (kk : ∀ g, K ((d, .slice (some ⟨g, 0, none⟩) 0 c) :: σ) (Own el nn (.slice (some ⟨g, 0, none⟩) 0 c) 0 [] :: L)) :
    Do P N ⟨some d, .makeSlice t x y, ty, pos, af, gd⟩ K σ e L := fun a w ha hs K' Q' hK => by
  obtain ⟨ti, t1, t2, t3, t4⟩ := j.parts
  subst t3 t4
  have hb' : (ti.bytes : Int) * (c : Int) ≤ 281474976710656 := by
    have h : ((ti.bytes * c : Nat) : Int) ≤ 281474976710656 := by rw [Nat.mul_comm]; omega
    rwa [Int.natCast_mul] at h
  have hr := run_make (P := P) w t el ti z i.und t1 t2 k1 k2 0 c (Int.le_refl _) (by omega) hb' (by simp only [maxLen] at h63; omega)
  simp only [Int.toNat_natCast, Int.toNat_zero] at hr
  refine upon_ok_do (w' := w.alloc (.cells (madeCells z.cells (c * ti.size)) el)) (v := .slice (some ⟨w.heap.size, 0, none⟩) 0 c) (by simp [execOp, ha.ev hx, ha.ev hy, hr]) (hK _ _ _ _ (kk _) (ha.put hd _) ?_)
  have hs3 := (hs.alloc (.cells (madeCells z.cells (c * ti.size)) el)).ent (blk_arr _ _ _ _)
  have hin := own_in (E := el) (n := ti.size) (g := w.heap.size) (k := 0) (cap := c) (cur := (madeCells z.cells (c * ti.size)).toList) (R := L) (Nat.zero_le _) h63 (by simp [size_madeCells])
  rw [Nat.zero_mul, List.take_zero] at hin
  exact hs3.ent hin
/-- A copy of as much as there is room for. -/
theorem Do.copyL {ts el b kk m c c2 : Nat} {z v0 : Value} {ad : Option Addr} {xs ys : List Value} {g : Nat} {R : List Res} [i : SlT P t el 1] [j : ElT P el z 1 b]
    (hx : ev σ x = some (.slice (some ⟨g, 0, none⟩) kk c)) (hy : ev σ y = some v0) (hd : Nat.blt d N.n = true) (p : Pull L (Own el 1 (.slice (some ⟨g, 0, none⟩) kk c) kk xs) R) (r : RdSl R 1 v0 m ys) (h1 : ∀ c ∈ ys, c.oneCell' = true) (hm : kk ≤ m)
    (k : K ((d, .int .i64 (kk : Int)) :: σ) (Own el 1 (.slice (some ⟨g, 0, none⟩) kk c) kk (ys.take kk) :: R)) :
    Do P N ⟨some d, .call { callee := .builtin .copy, args := #[x, y], argTypes := #[t, ts] }, ty, pos, af, gd⟩ K σ e L := fun a w ha hs K' Q' hK => by
  obtain ⟨ti, t1, t2, t3, t4⟩ := j.parts
  have hsz : (P.info? el).map (·.size) = some 1 := by rw [t1]; simp [t3]
  have hs1 := hs.ent p.out
  obtain ⟨hl, hA⟩ := own_out hs1.2.2.2
  obtain ⟨ad, cap, rfl, hcells⟩ := r.cells (hs1.ent (Ent.drop Ent.rfl))
  have hyl := (r _ (hs1.ent (Ent.drop Ent.rfl)).2.2.2).1
  have hex : ∀ v' w', (Builtin.copy_ #[t, ts] ty #[.slice (some ⟨g, 0, none⟩) kk c, .slice ad m cap]).run P w = .ok v' w' → K' (a.put (some d) v') w' →
      Oper.wp P ⟨some d, .call { callee := .builtin .copy, args := #[x, y], argTypes := #[t, ts] }, ty, pos, af, gd⟩ a w K' Q' := fun v' w' hr hk =>
    upon_ok_do (v := v') (w' := w') (by simp [execOp, resolve, invoke, builtin, ha.ev hx, ha.ev hy, hr]) hk
  have htl : (ys.take kk).length = kk := by rw [List.length_take]; omega
  rcases hA with ⟨hv', _⟩ | ⟨g', cap', cur, hv', r1, r2, r3, r4, hB⟩
  · cases hv'
  cases hv'
  have hs2 : Sat e (Blk g cur el (0, 0) :: R) w := ⟨hs.1, hs.2.1, hs.2.2.1, hB⟩
  have hg : w.heap[g]? = some (.cells cur.toArray el (0, 0)) := by
    obtain ⟨h1', h2', _, b', _, hA', _⟩ := hB
    exact b' g _ hA'
  by_cases h0 : kk = 0
  · subst h0
    refine hex (goInt 0) w (run_copy_none w t ts ty el _ _ _ _ _ _ i.und hsz (by simp)) (hK _ _ _ _ k (ha.put hd _) ?_)
    have hx0 : xs = [] := List.eq_nil_of_length_eq_zero (by rw [hl])
    rw [hx0] at hs1
    simpa using hs1
  have hne : ys ≠ [] := by
    intro h; rw [h] at hyl; simp at hyl; omega
  obtain ⟨a2, rfl, hc2⟩ := hcells hne
  have hc3 : ∀ q u, (ys.take kk)[q]? = some u → w.cell? (a2.add q) = some u := fun q u hq => by
    rw [List.getElem?_take] at hq
    split at hq
    · exact hc2 q u hq
    · cases hq
  have hr := run_copy_row (P := P) w t ts ty el g 0 kk c a2 m cap cur.toArray el (ys.take kk) i.und hsz hg (by rw [show Nat.min m kk = kk from Nat.min_eq_right hm]; exact htl) hc3 (by simp; omega) (fun v hv => h1 v (List.mem_of_mem_take hv))
  simp only [List.take_zero, List.nil_append, Nat.zero_add] at hr
  refine hex _ _ hr (hK _ _ _ _ (by rw [show (goInt (ys.take kk).length) = .int .i64 (kk : Int) from by rw [htl]; rfl]; exact k) (ha.put hd _) ?_)
  have hs5 : Sat e (Blk g (ys.take kk ++ cur.drop (ys.take kk).length) el (0, 0) :: R) (w.setRow g (ys.take kk ++ cur.drop (ys.take kk).length).toArray) := by
    have := Sat.setPart (c := c) (kk := kk) (nn := 1) (xs := xs) (o := 0) (ys := ys.take kk) hs2 (by rw [htl]; omega)
    simpa using this
  have hin := own_in (E := el) (n := 1) (g := g) (R := R) (cur := ys.take kk ++ cur.drop (ys.take kk).length) r1 r2 (by rw [List.length_append, List.length_drop, htl]; omega)
  have htk : (ys.take kk ++ cur.drop (ys.take kk).length).take (kk * 1) = ys.take kk := by
    rw [Nat.mul_one, List.take_append_of_le_length (by omega), List.take_of_length_le (by omega)]
  rw [htk] at hin
  exact hs5.ent hin
end
end Go.Bs
