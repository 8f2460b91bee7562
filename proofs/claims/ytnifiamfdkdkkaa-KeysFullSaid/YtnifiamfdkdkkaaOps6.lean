/- More rules: division, tuples, texts, new lists, copies, lists that are written into, function values. -/
import Derived.Test.YtnifiamfdkdkkaaOps5
import Derived.Laws.MakeOwn
import Derived.Laws.CopyRow
import Derived.Laws.IdiomCopy
namespace Go.Bs
set_option linter.unusedVariables false
set_option linter.unusedSimpArgs false
section
variable {P : Program} {N : Fr} {Q : Goal} {σ : Env} {e : World} {L : List Res} {all : Array Oper} {rest : List Oper}
variable {d : Nat} {op : Op} {ty : TypeId} {pos : String} {af : Array Edge} {gd : Option (Nat × Bool)} {K : Env → List Res → Prop} {x y : Operand} {t t' : TypeId} {k k' : IntKind} {m n : Int}
theorem Val.rem (h : ev σ x = some (.int k m)) (h1 : ev σ y = some (.int k n)) (h0 : n ≠ 0) : Val P N (.binOp .rem t x y t') ty (.int k (m.tmod n)) σ e L := fun a w ha _ _ _ _ _ => by
  simp [execOp, ha.ev h, ha.ev h1, eqGuard, binOp, Op.intDiv, h0]
theorem Val.quo (h : ev σ x = some (.int k m)) (h1 : ev σ y = some (.int k n)) (h0 : n ≠ 0) : Val P N (.binOp .quo t x y t') ty (.int k (k.wrap (m.tdiv n))) σ e L := fun a w ha _ _ _ _ _ => by
  simp [execOp, ha.ev h, ha.ev h1, eqGuard, binOp, Op.intDiv, h0]
theorem Val.extract {vs : List Value} {i : Nat} {v : Value} (h : ev σ x = some (.tuple vs.toArray)) (hv : nth vs i = some v) : Val P N (.extract x i) ty v σ e L := fun a w ha _ _ _ _ _ => by
  rw [nth_eq] at hv
  simp [execOp, ha.ev h, Instr.extract, hv]
theorem Val.neqBoolS {b : Bool} [i : BoolT P t] (h : ev σ x = some (.bool b)) (h1 : ev σ y = some (.bool b)) : Val P N (.binOp .neq t x y t') ty (.bool false) σ e L := by
  have := Val.neqBool (P := P) (N := N) (ty := ty) (e := e) (L := L) (t := t) (t' := t') h h1
  simpa using this
theorem Val.eqlBoolS {b : Bool} [i : BoolT P t] (h : ev σ x = some (.bool b)) (h1 : ev σ y = some (.bool b)) : Val P N (.binOp .eql t x y t') ty (.bool true) σ e L := by
  have := Val.eqlBool (P := P) (N := N) (ty := ty) (e := e) (L := L) (t := t) (t' := t') h h1
  simpa using this
theorem Val.not_t (h : ev σ x = some (.bool true)) : Val P N (.unOp .not t x) ty (.bool false) σ e L := Val.not h
theorem Val.not_f (h : ev σ x = some (.bool false)) : Val P N (.unOp .not t x) ty (.bool true) σ e L := Val.not h
theorem Val.eqlPtrS {el : TypeId} {p : Addr} [i : PtrT P t el] (h : ev σ x = some (.pointer (some p))) (h1 : ev σ y = some (.pointer none)) : Val P N (.binOp .eql t x y t') ty (.bool false) σ e L := Val.eqlPtr h h1
theorem Val.eqlPtrN {el : TypeId} [i : PtrT P t el] (h : ev σ x = some (.pointer none)) (h1 : ev σ y = some (.pointer none)) : Val P N (.binOp .eql t x y t') ty (.bool true) σ e L := Val.eqlPtr h h1
theorem Val.neqPtrS {el : TypeId} {p : Addr} [i : PtrT P t el] (h : ev σ x = some (.pointer (some p))) (h1 : ev σ y = some (.pointer none)) : Val P N (.binOp .neq t x y t') ty (.bool true) σ e L := Val.neqPtr h h1
theorem Val.neqPtrN {el : TypeId} [i : PtrT P t el] (h : ev σ x = some (.pointer none)) (h1 : ev σ y = some (.pointer none)) : Val P N (.binOp .neq t x y t') ty (.bool false) σ e L := Val.neqPtr h h1
/-- A block that is read as a whole, element by element. -/
theorem RdSl.blkN {R : List Res} {g c n : Nat} {xs : List Value} {T : TypeId} {fz : Nat × Nat} (p : Pull L (Blk g xs T fz) R) (hk : xs.length = c * n) (hm : c ≤ maxLen) : RdSl L n (.slice (some ⟨g, 0, none⟩) c c) c xs := fun h x =>
  ⟨hk, some ⟨g, 0, none⟩, c, rfl, Nat.le_refl _, hm, (fun e => by cases e), fun j u hj => ⟨g, 0, rfl, by
    rw [Nat.zero_add]
    exact Rd.blk p (by rw [nth_eq]; exact hj) h x⟩⟩
theorem str_append (s u : List UInt8) : str s ++ str u = str (s ++ u) := by
  apply ByteArray.ext
  simp [str]
theorem Val.addStr {s u : List UInt8} (h : ev σ x = some (.string (str s))) (h1 : ev σ y = some (.string (str u))) (hb : s.length + u.length ≤ 4611686018427387904) : Val P N (.binOp .add t x y t') ty (.string (str (s ++ u))) σ e L := fun a w ha _ _ _ _ _ => by
  have h2 : ¬ (((str s).size + (str u).size : Nat) : Int) > IntKind.i64.max := by
    rw [size_str, size_str]
    have : IntKind.i64.max = 9223372036854775807 := rfl
    omega
  have h3 : ¬ (IntKind.i64.max < (((str s).size : Int) + ((str u).size : Int))) := by omega
  have h4 : ((str s).size : Int) + ((str u).size : Int) ≤ 9223372036854775807 := by rw [size_str, size_str]; omega
  simp [execOp, ha.ev h, ha.ev h1, eqGuard, binOp, Op.stringOp, h3, h4, str_append]
theorem Val.indexAddr1 {el l c g o i : Nat} [s : SlT P t el 1] (h : ev σ x = some (.slice (some ⟨g, o, none⟩) l c)) (h1 : ev σ y = some (.int k (i : Int))) (hl : i < l) : Val P N (.indexAddr t x y) ty (.pointer (some ⟨g, o + i, none⟩)) σ e L := by
  have := Val.indexAddrN (P := P) (N := N) (ty := ty) (e := e) (L := L) (t := t) h h1 hl
  rwa [Nat.mul_one] at this
theorem Val.leqStr_size {s : ByteArray} {l : List UInt8} (h : s = str l) : s.size = l.length := by rw [h, size_str]
/-- A list cut at its end is still the owner of its memory. -/
theorem own_cutHi {E : TypeId} {n k c lo : Nat} {ad : Option Addr} {xs : List Value} {R : List Res} (h : lo ≤ k) : Ent (Own E n (.slice ad k c) k xs :: R) (Own E n (.slice ad lo c) lo (xs.take (lo * n)) :: R) := fun _ => sepL_head fun _ ⟨hl, hA⟩ => by
  have hle : lo * n ≤ k * n := Nat.mul_le_mul_right _ h
  refine ⟨by rw [List.length_take]; omega, ?_⟩
  rcases hA with ⟨hv, hk⟩ | ⟨g, cap, cur, hv, hg, r1, r2, r3, r4⟩
  · cases hv
    left
    exact ⟨by rw [show lo = 0 by omega], by omega⟩
  · cases hv
    refine .inr ⟨g, _, cur, rfl, hg, by omega, r2, r3, ?_⟩
    rw [← r4, List.take_take, Nat.min_eq_left hle]
theorem cells_one {v : Value} (h : v.oneCell' = true) : v.cells = #[v] := by
  cases v <;> first | rfl | simp [Value.oneCell'] at h
/-- An owner's form. -/
def ShapeO (v : Value) (k : Nat) : Prop := ∃ ad cap, v = .slice ad k cap ∧ k ≤ cap ∧ cap ≤ maxLen ∧ ((ad = none ∧ cap = 0 ∧ k = 0) ∨ ∃ g, ad = some ⟨g, 0, none⟩)
theorem own_shape {E : TypeId} {n k : Nat} {v : Value} {xs : List Value} {R : List Res} (p : Pull L (Own E n v k xs) R) : ∀ h, sepL L h → ShapeO v k ∧ xs.length = k * n := fun h x => by
  obtain ⟨hl, hA⟩ := own_out (p.out h x)
  refine ⟨?_, hl⟩
  rcases hA with ⟨hv, hk, _⟩ | ⟨g, cap, cur, hv, r1, r2, r3, r4, _⟩
  · exact ⟨none, 0, by rw [hv, hk], by omega, by simp [maxLen], .inl ⟨rfl, rfl, hk⟩⟩
  · exact ⟨_, cap, hv, r1, r2, .inr ⟨g, rfl⟩⟩
theorem set_take {α : Type} (l : List α) (o m : Nat) (v : α) (h : o < m) : (l.set o v).take m = (l.take m).set o v := by
  rw [List.take_set]
/-- A cell of a list that owns its memory is written. -/
theorem Do.storeOwn {g c kk nn off : Nat} {E : TypeId} {v : Value} {xs : List Value} {R : List Res} [i : PlainT P t] (h : ev σ x = some (.pointer (some ⟨g, off, none⟩))) (h1 : ev σ y = some v) (hv : v.oneCell' = true)
    (p : Pull L (Own E nn (.slice (some ⟨g, 0, none⟩) kk c) kk xs) R) (ho : off < kk * nn) (k : K σ (Own E nn (.slice (some ⟨g, 0, none⟩) kk c) kk (xs.set off v) :: R)) :
    Do P N ⟨none, .store t x y, ty, pos, af, gd⟩ K σ e L := fun a w ha hs K' Q' hK => by
  have hs1 := hs.ent p.out
  obtain ⟨hl, hA⟩ := own_out hs1.2.2.2
  rcases hA with ⟨hv', _⟩ | ⟨g', cap, cur, hv', r1, r2, r3, r4, hB⟩
  · cases hv'
  · cases hv'
    have hs2 : Sat e (Blk g cur E (0, 0) :: R) w := ⟨hs.1, hs.2.1, hs.2.2.1, hB⟩
    have hlt : off < cur.length := by
      have := Nat.mul_le_mul_right nn r1
      omega
    refine Do.store (P := P) (N := N) (ty := ty) (pos := pos) (af := af) (gd := gd) (K := fun σ' L' => σ' = σ ∧ L' = Blk g (cur.set off v) E (0, 0) :: R) h h1 hv .zero (SetAt.of v hlt) ⟨rfl, rfl⟩ a w ha hs2 K' Q' (fun σ' L' a' w' ⟨e1, e2⟩ ha' hs' => ?_)
    subst e1 e2
    have hin := own_in (E := E) (n := nn) (g := g) (R := R) (cur := cur.set off v) r1 r2 (by rw [List.length_set]; exact r3)
    rw [List.take_set, r4] at hin
    exact hK _ _ _ _ k ha' (hs'.ent hin)
theorem Do.makeSlice {el nn b c : Nat} {z z0 : Value} {k1 k2 : IntKind} [i : SlT P t el nn] [j : ElT P el z 1 b] (hx : ev σ x = some (.int k1 (c : Int))) (hy : ev σ y = some (.int k2 (c : Int))) (hd : Nat.blt d N.n = true) (hz : z.cells = #[z0]) (h63 : c ≤ maxLen) (hb : c * b ≤ 140737488355328)
    (kk : ∀ g, K ((d, .slice (some ⟨g, 0, none⟩) c c) :: σ) (Own el 1 (.slice (some ⟨g, 0, none⟩) c c) c (List.replicate c z0) :: L)) :
    Do P N ⟨some d, .makeSlice t x y, ty, pos, af, gd⟩ K σ e L := fun a w ha hs K' Q' hK => by
  obtain ⟨ti, t1, t2, t3, t4⟩ := j.parts
  subst t4
  have hb' : (ti.bytes : Int) * (c : Int) ≤ 281474976710656 := by
    have h : ((ti.bytes * c : Nat) : Int) ≤ 281474976710656 := by rw [Nat.mul_comm]; omega
    rwa [Int.natCast_mul] at h
  have hr := run_make (P := P) w t el ti z i.und t1 t2 k1 k2 c c (by omega) (Int.le_refl _) hb' (by simp only [maxLen] at h63; omega)
  simp only [Int.toNat_natCast, t3, Nat.mul_one] at hr
  have hm : (madeCells z.cells c).toList = List.replicate c z0 := by
    rw [hz]
    apply List.ext_getElem?
    intro q
    simp only [madeCells, Array.toList_map, List.getElem?_map, Array.toList_range, List.getElem?_replicate]
    by_cases hq : q < c
    · simp [hq, Nat.mod_one]
    · simp [hq]
  refine upon_ok_do (w' := w.alloc (.cells (madeCells z.cells c) el)) (v := .slice (some ⟨w.heap.size, 0, none⟩) c c) (by simp [execOp, ha.ev hx, ha.ev hy, hr]) (hK _ _ _ _ (kk _) (ha.put hd _) ?_)
  have hs3 := (hs.alloc (.cells (madeCells z.cells c) el)).ent (blk_arr _ _ _ _)
  rw [hm] at hs3
  have hin := own_in (E := el) (n := 1) (g := w.heap.size) (k := c) (cap := c) (cur := List.replicate c z0) (R := L) (Nat.le_refl _) h63 (by simp)
  rw [List.take_of_length_le (by simp)] at hin
  exact hs3.ent hin
/-- What is read of an owner is what is copied into another's beginning. -/
theorem Do.copy {ts el b kk m c c2 : Nat} {z v0 : Value} {ad : Option Addr} {xs ys : List Value} {g : Nat} {R : List Res} [i : SlT P t el 1] [j : ElT P el z 1 b]
    (hx : ev σ x = some (.slice (some ⟨g, 0, none⟩) kk c)) (hy : ev σ y = some v0) (hd : Nat.blt d N.n = true) (p : Pull L (Own el 1 (.slice (some ⟨g, 0, none⟩) kk c) kk xs) R) (r : RdSl R 1 v0 m ys) (h1 : ∀ c ∈ ys, c.oneCell' = true) (hm : m ≤ kk)
    (k : K ((d, .int .i64 (m : Int)) :: σ) (Own el 1 (.slice (some ⟨g, 0, none⟩) kk c) kk (ys ++ xs.drop m) :: R)) :
    Do P N ⟨some d, .call { callee := .builtin .copy, args := #[x, y], argTypes := #[t, ts] }, ty, pos, af, gd⟩ K σ e L := fun a w ha hs K' Q' hK => by
  obtain ⟨ti, t1, t2, t3, t4⟩ := j.parts
  have hsz : (P.info? el).map (·.size) = some 1 := by rw [t1]; simp [t3]
  have hs1 := hs.ent p.out
  obtain ⟨hl, hA⟩ := own_out hs1.2.2.2
  obtain ⟨ad, cap, rfl, hcells⟩ := r.cells (hs1.ent (Ent.drop Ent.rfl))
  have hyl := (r _ (hs1.ent (Ent.drop Ent.rfl)).2.2.2).1
  have hex : ∀ v' w', (Builtin.copy_ #[t, ts] ty #[.slice (some ⟨g, 0, none⟩) kk c, .slice ad m cap]).run P w = .ok v' w' → K' (a.put (some d) v') w' →
      Oper.wp P ⟨some d, .call { callee := .builtin .copy, args := #[x, y], argTypes := #[t, ts] }, ty, pos, af, gd⟩ a w K' Q' := fun v' w' hr hk =>
    upon_ok_do (v := v') (w' := w') (by simp [execOp, resolve, invoke, builtin, ha.ev hx, ha.ev hy, hr]) hk
  by_cases h0 : m = 0
  · subst h0
    have hy0 : ys = [] := List.eq_nil_of_length_eq_zero (by simpa using hyl)
    subst hy0
    refine hex (goInt 0) w (run_copy_none w t ts ty el _ _ _ _ _ _ i.und hsz (by simp)) (hK _ _ _ _ k (ha.put hd _) ?_)
    simpa using hs1
  · have hne : ys ≠ [] := by
      intro h; rw [h] at hyl; simp at hyl; omega
    obtain ⟨a2, rfl, hc2⟩ := hcells hne
    rcases hA with ⟨hv', _⟩ | ⟨g', cap', cur, hv', r1, r2, r3, r4, hB⟩
    · cases hv'
    · cases hv'
      have hs2 : Sat e (Blk g cur el (0, 0) :: R) w := ⟨hs.1, hs.2.1, hs.2.2.1, hB⟩
      have hg : w.heap[g]? = some (.cells cur.toArray el (0, 0)) := by
        obtain ⟨h1', h2', _, b', _, hA', _⟩ := hB
        exact b' g _ hA'
      have hr := run_copy_row (P := P) w t ts ty el g 0 kk c a2 m cap cur.toArray el ys i.und hsz hg (by rw [show Nat.min m kk = m from Nat.min_eq_left hm]; omega) hc2 (by simp; omega) h1
      simp only [List.take_zero, List.nil_append, Nat.zero_add] at hr
      refine hex _ _ hr (hK _ _ _ _ (by rw [show (goInt ys.length) = .int .i64 (m : Int) from by rw [hyl, Nat.mul_one]; rfl]; exact k) (ha.put hd _) ?_)
      have hs5 : Sat e (Blk g (ys ++ cur.drop ys.length) el (0, 0) :: R) (w.setRow g (ys ++ cur.drop ys.length).toArray) := by
        refine hs2.change rfl rfl rfl fun h1' hle hA' => ?_
        refine ⟨fun b => if b = g then some (.cells (ys ++ cur.drop ys.length).toArray el (0, 0)) else none, ?_, by simp [Blk, Ob], ?_, ?_⟩
        · intro b o hb
          by_cases eb : b = g
          · subst eb; simp only [if_true] at hb; rw [← hb]; exact setRow_heap w b cur.toArray _ el _ hg
          · simp [eb] at hb
        · intro b o hb hn
          by_cases eb : b = g
          · subst eb; rw [show h1' b = _ from hA'] at hn; cases hn
          · simp [eb] at hb
        · intro b hn o ho
          have : b ≠ g := by rintro rfl; rw [show h1' b = _ from hA'] at hn; cases hn
          exact (setRow_other w g b _ this).trans ho
      have hin := own_in (E := el) (n := 1) (g := g) (R := R) (cur := ys ++ cur.drop ys.length) r1 r2 (by simp; omega)
      have htk : (ys ++ cur.drop ys.length).take (kk * 1) = ys ++ xs.drop m := by
        rw [← r4, List.take_append, List.take_of_length_le (by omega), List.drop_take, hyl]
        simp
      rw [htk] at hin
      exact hs5.ent hin
theorem Val.makeFunc {f : FuncId} {xs ys : List Operand} {us vs : List Value} (h : evs σ xs = some us) (h1 : evs σ ys = some vs) : Val P N (.makeFunc (.func f) xs.toArray ys.toArray) ty (.func (.func f) us.toArray vs.toArray) σ e L := fun a w ha _ _ _ _ _ => by
  simp [execOp, Instr.makeFunc, ha.evs h, ha.evs h1]
/-- A call of a function that is a value. -/
theorem Do.callV {f g : FuncId} {us ws : List Value} {xs : List Operand} {vs : List Value} {ats : Array TypeId} {Post : Value → List Res → Prop}
    [i : CallT P f g] (hf : ev σ x = some (.func (.func f) us.toArray ws.toArray)) (hx : evs σ xs = some vs) (hd : Nat.blt d N.n = true) (h : Ct P g (us ++ vs ++ ws).toArray e L Post) (k : ∀ v L', Post v L' → K ((d, v) :: σ) L') :
    Do P N ⟨some d, .call { callee := .value x, args := xs.toArray, argTypes := ats }, ty, pos, af, gd⟩ K σ e L := by
  intro a w ha hs K' Q' hK
  unfold Oper.wp
  have h1 : execOp a.eval ⟨some d, .call { callee := .value x, args := xs.toArray, argTypes := ats }, ty, pos, af, gd⟩ = callFunc f (us.toArray ++ xs.toArray.map a.eval ++ ws.toArray) := by
    simp only [execOp, resolve, ha.ev hf, Deferred.ofValue]
    rfl
  have h2 : (us.toArray ++ xs.toArray.map a.eval ++ ws.toArray : Array Value) = (us ++ vs ++ ws).toArray := by simp [ha.evs hx]
  rw [h1, h2, i.run, Oper.upon_enter]
  refine (h w hs).mono ?_
  rintro x w' ⟨v, L', rfl, hp, hs'⟩
  exact hK _ _ _ _ (k v L' hp) (ha.put hd v) hs'
end
end Go.Bs
