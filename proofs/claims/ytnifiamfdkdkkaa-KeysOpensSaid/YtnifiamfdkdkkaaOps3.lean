/- Rules for slices, new memory, stores and appends. -/
import Derived.Test.YtnifiamfdkdkkaaOps2
namespace Go.Bs
set_option linter.unusedVariables false
set_option linter.unusedSimpArgs false

class ElT (P : Program) (t : TypeId) (z : outParam Value) (n : outParam Nat) (by' : outParam Nat) : Prop where
  info : (P.info? t).map (fun i => (i.zero, i.size, i.bytes)) = some (some z, n, by')
theorem ElT.parts {P : Program} {t : TypeId} {z : Value} {n b : Nat} (h : ElT P t z n b) : ∃ i, P.info? t = some i ∧ i.zero = some z ∧ i.size = n ∧ i.bytes = b := by
  have h1 := h.info
  cases hi : P.info? t with
  | none => rw [hi] at h1; simp at h1
  | some i => rw [hi] at h1; simp at h1; exact ⟨i, rfl, h1.1, h1.2.1, h1.2.2⟩

section
variable {P : Program} {N : Fr} {Q : Goal} {σ : Env} {e : World} {L : List Res} {all : Array Oper} {rest : List Oper}
variable {d : Nat} {op : Op} {ty : TypeId} {pos : String} {af : Array Edge} {gd : Option (Nat × Bool)} {K : Env → List Res → Prop}

/-- What can be had of a memory before going on. -/
theorem W.of_sep {c : Code} {p : Prop} (f : ∀ h, sepL L h → p) (h : p → W P N c Q σ e L) : W P N c Q σ e L := fun a w ha hs => h (f _ hs.2.2.2) a w ha hs
theorem O.of_sep {l : List Oper} {p : Prop} (f : ∀ h, sepL L h → p) (h : p → O P N all l Q σ e L) : O P N all l Q σ e L := fun a w ha hs => h (f _ hs.2.2.2) a w ha hs
theorem Ct.of_sep {f : FuncId} {args : Array Value} {Post : Value → List Res → Prop} {p : Prop} (g : ∀ h, sepL L h → p) (h : p → Ct P f args e L Post) : Ct P f args e L Post := fun w hs => h (g _ hs.2.2.2) w hs
theorem Fin.of_sep {x : Exit} {p : Prop} (f : ∀ h, sepL L h → p) (h : p → Fin Q x σ e L) : Fin Q x σ e L := fun w hs => h (f _ hs.2.2.2) w hs
/-- A slice's form. -/
def Shape (v : Value) (k : Nat) : Prop := ∃ ad cap, v = .slice ad k cap ∧ k ≤ cap ∧ cap ≤ maxLen ∧ (ad = none → cap = 0) ∧ (k = 0 ∨ ∃ g o, ad = some ⟨g, o, none⟩)
theorem RdSl.shape {n k : Nat} {v : Value} {xs : List Value} (r : RdSl L n v k xs) (hn : 0 < n) : ∀ h, sepL L h → Shape v k ∧ xs.length = k * n := fun h x => by
  obtain ⟨h1, ad, cap, h2, h3, h4, h5, h6⟩ := r h x
  refine ⟨⟨ad, cap, h2, h3, h4, h5, ?_⟩, h1⟩
  cases xs with
  | nil =>
    left
    have h2 : k * n = 0 := h1.symm
    rcases Nat.mul_eq_zero.1 h2 with h3 | h3
    · exact h3
    · omega
  | cons u l =>
    obtain ⟨g, o, a, _⟩ := h6 0 u (by simp)
    exact .inr ⟨g, o, a⟩
theorem W.ex {c : Code} {α : Sort _} {f : α → Res} {R : List Res} (p : Pull L (Ex f) R) (h : ∀ x, W P N c Q σ e (f x :: R)) : W P N c Q σ e L := fun a w ha hs => by
  obtain ⟨x, hx⟩ := ex_out (p.out _ hs.2.2.2)
  exact h x a w ha ⟨hs.1, hs.2.1, hs.2.2.1, hx⟩
theorem O.ex {l : List Oper} {α : Sort _} {f : α → Res} {R : List Res} (p : Pull L (Ex f) R) (h : ∀ x, O P N all l Q σ e (f x :: R)) : O P N all l Q σ e L := fun a w ha hs => by
  obtain ⟨x, hx⟩ := ex_out (p.out _ hs.2.2.2)
  exact h x a w ha ⟨hs.1, hs.2.1, hs.2.2.1, hx⟩
theorem Ct.ex {g : FuncId} {args : Array Value} {Post : Value → List Res → Prop} {α : Sort _} {f : α → Res} {R : List Res} (p : Pull L (Ex f) R) (h : ∀ x, Ct P g args e (f x :: R) Post) : Ct P g args e L Post := fun w hs => by
  obtain ⟨x, hx⟩ := ex_out (p.out _ hs.2.2.2)
  exact h x w ⟨hs.1, hs.2.1, hs.2.2.1, hx⟩

/-! ### addresses into slices, slices of slices -/
theorem Val.indexAddr {x y : Operand} {t : TypeId} {el n l c g o : Nat} {k : IntKind} {i : Int} [s : SlT P t el n] (h : ev σ x = some (.slice (some ⟨g, o, none⟩) l c)) (h1 : ev σ y = some (.int k i)) (h0 : 0 ≤ i) (hl : i < l) :
    Val P N (.indexAddr t x y) ty (.pointer (some ⟨g, o + i.toNat * n, none⟩)) σ e L := fun a w ha _ _ _ _ _ => by
  simp [execOp, ha.ev h, ha.ev h1, Instr.indexAt, run_underlying s.und, asIntOf, h0, hl, s.siz, Addr.add_lit]
theorem Val.indexAddrN {x y : Operand} {t : TypeId} {el n l c g o : Nat} {k : IntKind} {i : Nat} [s : SlT P t el n] (h : ev σ x = some (.slice (some ⟨g, o, none⟩) l c)) (h1 : ev σ y = some (.int k i)) (hl : i < l) :
    Val P N (.indexAddr t x y) ty (.pointer (some ⟨g, o + i * n, none⟩)) σ e L := by
  have := Val.indexAddr (P := P) (N := N) (ty := ty) (e := e) (L := L) (t := t) h h1 (by omega) (by omega)
  simpa using this
theorem Val.index1 {x y : Operand} {t : TypeId} {s : ByteArray} {k : IntKind} {i : Nat} [q : StrT P t] (h : ev σ x = some (.string s)) (h1 : ev σ y = some (.int k i)) (hl : i < s.size) :
    Val P N (.index t x y) ty (.int .u8 (s[i].toNat)) σ e L := fun a w ha _ _ _ _ _ => by
  simp [execOp, ha.ev h, ha.ev h1, Instr.index, run_underlying q.und, asIntOf, hl]
def cutAt (ad : Option Addr) (cap lo n : Nat) : Option Addr := if cap = lo then ad else ad.map (·.add (lo * n))
theorem Val.sliceHi {x y : Operand} {t : TypeId} {el n l c : Nat} {ad : Option Addr} {k : IntKind} {i : Int} [s : SlT P t el n] (h : ev σ x = some (.slice ad l c)) (h1 : ev σ y = some (.int k i)) (h0 : 0 ≤ i) (hl : i ≤ c) :
    Val P N (.slice t x none (some y) none) ty (.slice ad i.toNat c) σ e L := fun a w ha _ _ _ _ _ => by
  simp only [execOp, ha.ev h, ha.ev h1, Option.map_none, Option.map_some]
  simp [Instr.sliceAt, Instr.slice, run_underlying s.und, Instr.sliceBounds, Instr.sliceBound, asIntOf, h0, hl, s.siz]
  by_cases hc : c = 0 <;> simp [hc, Addr.add]
theorem Val.sliceLo {x y : Operand} {t : TypeId} {el n l c : Nat} {ad : Option Addr} {k : IntKind} {i : Int} [s : SlT P t el n] (h : ev σ x = some (.slice ad l c)) (h1 : ev σ y = some (.int k i)) (h0 : 0 ≤ i) (hl : i ≤ l) :
    Val P N (.slice t x (some y) none none) ty (.slice (cutAt ad c i.toNat n) (l - i.toNat) (c - i.toNat)) σ e L := fun a w ha _ _ _ _ _ => by
  simp only [execOp, ha.ev h, ha.ev h1, Option.map_none, Option.map_some]
  simp [Instr.sliceAt, Instr.slice, run_underlying s.und, Instr.sliceBounds, Instr.sliceBound, asIntOf, h0, hl, s.siz, cutAt]
theorem Val.sliceLoHi {x y z : Operand} {t : TypeId} {el n l c : Nat} {ad : Option Addr} {k k' : IntKind} {i j : Int} [s : SlT P t el n] (h : ev σ x = some (.slice ad l c)) (h1 : ev σ y = some (.int k i)) (h2 : ev σ z = some (.int k' j)) (h0 : 0 ≤ i) (hl : i ≤ j) (hj : j ≤ c) :
    Val P N (.slice t x (some y) (some z) none) ty (.slice (cutAt ad c i.toNat n) (j.toNat - i.toNat) (c - i.toNat)) σ e L := fun a w ha _ _ _ _ _ => by
  have e1 : ((j.toNat : Nat) : Int) = j := Int.toNat_of_nonneg (by omega)
  have h3 : 0 ≤ j := by omega
  simp only [execOp, ha.ev h, ha.ev h1, ha.ev h2, Option.map_none, Option.map_some]
  simp [Instr.sliceAt, Instr.slice, run_underlying s.und, Instr.sliceBounds, Instr.sliceBound, asIntOf, h0, hl, s.siz, cutAt, h3, hj, e1]
theorem Val.sliceAll {x : Operand} {t : TypeId} {el n l c : Nat} {ad : Option Addr} [s : SlT P t el n] (h : ev σ x = some (.slice ad l c)) :
    Val P N (.slice t x none none none) ty (.slice ad l c) σ e L := fun a w ha _ _ _ _ _ => by
  simp only [execOp, ha.ev h, Option.map_none]
  simp [Instr.sliceAt, Instr.slice, run_underlying s.und, Instr.sliceBounds, s.siz]
  by_cases hc : c = 0 <;> simp [hc, Addr.add]
/-- A part of a slice that is read. -/
theorem View.cut {n k c lo hi : Nat} {ad : Option Addr} {xs : List Value} {hh : Heap} (h : View n (.slice ad k c) k xs hh) (h1 : lo ≤ hi) (h2 : hi ≤ k) : View n (.slice (cutAt ad c lo n) (hi - lo) (c - lo)) (hi - lo) ((xs.drop (lo * n)).take ((hi - lo) * n)) hh := by
  obtain ⟨hl, ad', cap, hv, h3, h4, h5, h6⟩ := h
  cases hv
  have hle : (hi - lo) * n ≤ (k - lo) * n := Nat.mul_le_mul_right _ (by omega)
  have hk : k * n = (k - lo) * n + lo * n := by rw [← Nat.add_mul]; congr 1; omega
  refine ⟨?_, _, _, rfl, by omega, by omega, ?_, ?_⟩
  · simp only [List.length_take, List.length_drop, hl]; omega
  · intro hn
    unfold cutAt at hn
    split at hn
    · have := h5 hn; omega
    · have := h5 (by simpa using hn); omega
  · intro j u hj
    rw [List.getElem?_take] at hj
    split at hj
    · rw [List.getElem?_drop] at hj
      obtain ⟨g, o, e1, e2⟩ := h6 _ _ hj
      subst e1
      unfold cutAt
      by_cases hc : c = lo
      · exfalso
        have h7 : hi - lo = 0 := by omega
        rename_i hlt
        rw [h7] at hlt; simp at hlt
      · refine ⟨g, o + lo * n, by simp [hc, Addr.add_lit], ?_⟩
        rw [Nat.add_assoc]; exact e2
    · cases hj
theorem RdSl.cut {n k c lo hi : Nat} {ad : Option Addr} {xs : List Value} (h : RdSl L n (.slice ad k c) k xs) (h1 : lo ≤ hi) (h2 : hi ≤ k) : RdSl L n (.slice (cutAt ad c lo n) (hi - lo) (c - lo)) (hi - lo) ((xs.drop (lo * n)).take ((hi - lo) * n)) := fun i x => (h i x).cut h1 h2
theorem RdSl.cutHi {n k c hi : Nat} {ad : Option Addr} {xs : List Value} (h : RdSl L n (.slice ad k c) k xs) (h2 : hi ≤ k) : RdSl L n (.slice ad hi c) hi (xs.take (hi * n)) := by
  have := h.cut (Nat.zero_le hi) h2
  simp only [Nat.sub_zero, Nat.zero_mul, List.drop_zero] at this
  have e : cutAt ad c 0 n = ad := by unfold cutAt; cases ad <;> simp [Addr.add]
  rwa [e] at this
theorem View.cutLo {n k c lo : Nat} {ad : Option Addr} {xs : List Value} {hh : Heap} (h : View n (.slice ad k c) k xs hh) (h2 : lo ≤ k) : View n (.slice (cutAt ad c lo n) (k - lo) (c - lo)) (k - lo) (xs.drop (lo * n)) hh := by
  have := h.cut h2 (Nat.le_refl k)
  rwa [List.take_of_length_le] at this
  simp only [List.length_drop, h.1, Nat.sub_mul]; omega
theorem RdSl.cutLo {n k c lo : Nat} {ad : Option Addr} {xs : List Value} (h : RdSl L n (.slice ad k c) k xs) (h2 : lo ≤ k) : RdSl L n (.slice (cutAt ad c lo n) (k - lo) (c - lo)) (k - lo) (xs.drop (lo * n)) := fun i x => (h i x).cutLo h2

/-! ### new memory -/
theorem upon_ok_do {o : Oper} {a : Act} {w w' : World} {v : Value} {K' : Act → World → Prop} {Q' : Exit → Act → World → Prop} (h : (execOp a.eval o).run P w = .ok (.value v) w') (k : K' (a.put o.dst v) w') : o.wp P a w K' Q' := by
  unfold Oper.wp; rw [h]; exact k
theorem upon_skip_do {o : Oper} {a : Act} {w w' : World} {K' : Act → World → Prop} {Q' : Exit → Act → World → Prop} (h : (execOp a.eval o).run P w = .ok .skip w') (k : K' (a.put o.dst undef) w') : o.wp P a w K' Q' := by
  unfold Oper.wp; rw [h]; exact k
def evp (σ : Env) : List (Nat × Operand) → Option (List (Nat × Value))
  | [] => some []
  | (i, x) :: r => match ev σ x, evp σ r with
    | some v, some vs => some ((i, v) :: vs)
    | _, _ => none
theorem Has.evp {a : Act} (h : Has N σ a) : ∀ {xs : List (Nat × Operand)} {vs : List (Nat × Value)}, evp σ xs = some vs → (xs.map fun p => (p.1, a.eval p.2)) = vs
  | [], vs, e => by simpa [Bs.evp] using e
  | (i, x) :: r, vs, e => by
    simp only [Bs.evp] at e
    cases hx : Bs.ev σ x with
    | none => rw [hx] at e; simp at e
    | some v =>
      cases hr : Bs.evp σ r with
      | none => rw [hx, hr] at e; simp at e
      | some us =>
        rw [hx, hr] at e; simp at e; subst e
        simp only [List.map_cons, h.ev hx, h.evp hr]
theorem Do.box {x : Operand} {v : Value} {t : TypeId} {cs : List Value} (h : ev σ x = some v) (hc : v.cells = cs.toArray) (hd : Nat.blt d N.n = true) (k : ∀ g, K ((d, .pointer (some ⟨g, 0, none⟩)) :: σ) (Blk g cs t (0, 0) :: L)) :
    Do P N ⟨some d, .box t x, ty, pos, af, gd⟩ K σ e L := fun a w ha hs K' Q' hK =>
  upon_ok_do (w' := w.alloc (.cells cs.toArray t)) (v := .pointer (some ⟨w.heap.size, 0, none⟩)) (by simp [execOp, ha.ev h, Instr.box, newVar, newRow, hc]) (hK _ _ _ _ (k _) (ha.put hd _) (hs.alloc _))
theorem Do.alloc {z : Value} {t : TypeId} {cs : List Value} [i : ZeroT P t z] (hc : z.cells = cs.toArray) (hd : Nat.blt d N.n = true) (k : ∀ g, K ((d, .pointer (some ⟨g, 0, none⟩)) :: σ) (Blk g cs t (0, 0) :: L)) :
    Do P N ⟨some d, .alloc t, ty, pos, af, gd⟩ K σ e L := fun a w ha hs K' Q' hK =>
  upon_ok_do (w' := w.alloc (.cells cs.toArray t)) (v := .pointer (some ⟨w.heap.size, 0, none⟩)) (by simp [execOp, Instr.alloc, i.run, newVar, newRow, hc]) (hK _ _ _ _ (k _) (ha.put hd _) (hs.alloc _))
/-- A literal's parts, one behind the other, and their cells. -/
inductive Parts (n : Nat) : Nat → List (Nat × Value) → List Value → Prop
  | nil {i : Nat} : Parts n i [] []
  | one {i : Nat} {v : Value} {r : List (Nat × Value)} {l : List Value} : v.cells = #[v] → n = 1 → Parts n (i + 1) r l → Parts n i ((i, v) :: r) (v :: l)
  | agg {i : Nat} {cs : List Value} {r : List (Nat × Value)} {l : List Value} : cs.length = n → Parts n (i + 1) r l → Parts n i ((i, .agg cs.toArray) :: r) (cs ++ l)
theorem foldl_set : ∀ (vs : List Value) (k off : Nat) (a : Array Value), off + k + vs.length ≤ a.size →
    ((vs.zipIdx k).foldl (fun cs (x : Value × Nat) => cs.setIfInBounds (off + x.2) x.1) a).toList = a.toList.take (off + k) ++ vs ++ a.toList.drop (off + k + vs.length)
  | [], k, off, a, _ => by simp
  | v :: vs, k, off, a, h => by
    simp only [List.zipIdx_cons, List.foldl_cons]
    have h' : off + k + (vs.length + 1) ≤ a.size := h
    rw [foldl_set vs (k + 1) off _ (by simp; omega)]
    have hlt : off + k < a.toList.length := by simp; omega
    have e1 : (a.setIfInBounds (off + k) v).toList = a.toList.set (off + k) v := by simp
    rw [e1]
    have e2 : (a.toList.set (off + k) v).take (off + (k + 1)) = a.toList.take (off + k) ++ [v] := by
      rw [← Nat.add_assoc, List.take_succ_eq_append_getElem (by simpa using hlt)]
      simp [List.take_set_of_le]
    have e3 : (a.toList.set (off + k) v).drop (off + (k + 1) + vs.length) = a.toList.drop (off + k + (v :: vs).length) := by
      rw [List.drop_set_of_lt (by omega)]
      congr 1
      simp; omega
    rw [e2, e3]
    simp
theorem Parts.fill {n i : Nat} {ps : List (Nat × Value)} {cs : List Value} (h : Parts n i ps cs) : ∀ (a : Array Value), a.size = (i + ps.length) * n → Instr.fill (fun i => some (i * n, n)) a ps = some (a.toList.take (i * n) ++ cs).toArray := by
  have step : ∀ (i : Nat) (us : List Value) (r : List (Nat × Value)) (l : List Value) (a : Array Value), us.length = n → a.size = (i + (r.length + 1)) * n →
      (∀ (a : Array Value), a.size = (i + 1 + r.length) * n → Instr.fill (fun i => some (i * n, n)) a r = some (a.toList.take ((i + 1) * n) ++ l).toArray) →
      Instr.fill (fun i => some (i * n, n)) (us.toArray.zipIdx.foldl (fun cs (x : Value × Nat) => cs.setIfInBounds (i * n + x.2) x.1) a) r = some (a.toList.take (i * n) ++ (us ++ l)).toArray := by
    intro i us r l a hu ha ih
    have e0 : us.toArray.zipIdx.foldl (fun cs (x : Value × Nat) => cs.setIfInBounds (i * n + x.2) x.1) a = (us.zipIdx 0).foldl (fun cs (x : Value × Nat) => cs.setIfInBounds (i * n + x.2) x.1) a := by
      rw [← Array.foldl_toList]
      simp
    have hb : i * n + us.length ≤ a.size := by
      rw [ha, hu, ← Nat.succ_mul]
      exact Nat.mul_le_mul_right _ (by omega)
    have e1 := foldl_set us 0 (i * n) a (by simpa using hb)
    simp only [Nat.add_zero] at e1
    rw [e0]
    have hsz : ((us.zipIdx 0).foldl (fun cs (x : Value × Nat) => cs.setIfInBounds (i * n + x.2) x.1) a).size = a.size := by
      rw [← Array.length_toList, e1]
      simp only [List.length_append, List.length_take, List.length_drop, Array.length_toList]; omega
    rw [ih _ (by rw [hsz, ha]; congr 1; omega), e1]
    congr 1
    rw [List.append_assoc, show (i + 1) * n = i * n + us.length from by rw [hu, Nat.succ_mul], ← List.append_assoc, ← List.append_assoc]
    rw [List.take_left' (by simp only [List.length_append, List.length_take, Array.length_toList]; omega)]
  induction h with
  | nil =>
    intro a ha
    simp only [List.length_nil, Nat.add_zero] at ha
    simp only [Instr.fill, List.append_nil]
    congr 1
    rw [← ha, ← Array.length_toList, List.take_length]
  | one hv hn _ ih =>
    rename_i i v r l _
    intro a ha
    simp only [Instr.fill, hv]
    rw [if_neg (by subst hn; simp only [List.length_cons] at ha; simp [ha])]
    exact step i [v] r l a (by simp [hn]) (by simpa using ha) ih
  | agg hl _ ih =>
    rename_i i cs r l _
    intro a ha
    have hb : i * n + cs.length ≤ a.size := by
      rw [ha, hl, ← Nat.succ_mul]
      exact Nat.mul_le_mul_right _ (by simp only [List.length_cons]; omega)
    have hcs : (Value.agg cs.toArray).cells = cs.toArray := rfl
    simp only [Instr.fill, hcs]
    rw [if_neg (by simp [hl]; rw [hl] at hb; exact hb)]
    exact step i cs r l a hl (by simpa using ha) ih
/-- A slice's literal. -/
theorem Do.buildSlice {t : TypeId} {el n len b : Nat} {z : Value} {parts : List (Nat × Operand)} {vs : List (Nat × Value)} {cs : List Value} [i : SlT P t el n] [j : ElT P el z n b] (h : evp σ parts = some vs) (hd : Nat.blt d N.n = true) (hn : Nat.ble (len * n) 16777216 = true)
    (hlen : vs.length = len) (hc : Parts n 0 vs cs) (hz : z.cells.size = n)
    (k : ∀ g, K ((d, .slice (some ⟨g, 0, none⟩) len len) :: σ) (Blk g cs el (0, 0) :: L)) :
    Do P N ⟨some d, .buildSlice t len parts.toArray, ty, pos, af, gd⟩ K σ e L := fun a w ha hs K' Q' hK => by
  obtain ⟨ti, h1, h2, h3, h4⟩ := j.parts
  have hle : ¬ (16777216 < len * n) := by have := Nat.le_of_ble_eq_true hn; omega
  have hpv : (parts.toArray.map fun p => (p.1, a.eval p.2)).toList = vs := by simp [← ha.evp h]
  refine upon_ok_do (w' := w.alloc (.cells cs.toArray el)) (v := .slice (some ⟨w.heap.size, 0, none⟩) len len) ?_ (hK _ _ _ _ (k _) (ha.put hd _) (hs.alloc _))
  have hc1 : Instr.fill (fun i => some (i * n, n)) ((Array.range (len * n)).map (z.cells[· % z.cells.size]!)) vs = some cs.toArray := by
    have := hc.fill ((Array.range (len * n)).map (z.cells[· % z.cells.size]!)) (by simp [hlen])
    simpa using this
  simp only [execOp, Instr.buildSlice]
  have e1 : (parts.toArray.map fun x => match x with | (i, x) => (i, a.eval x)).toList = vs := hpv
  rw [e1]
  by_cases hz : len * n = 0
  · have r0 : Array.range 0 = #[] := Array.eq_empty_of_size_eq_zero (by simp)
    have hc' : Instr.fill (fun i => some (i * n, n)) #[] vs = some cs.toArray := by rw [hz, r0] at hc1; simpa using hc1
    simp [run_underlying i.und, i.siz, hz, hc', newRow, r0]
  · simp [run_underlying i.und, i.siz, hz, hle, zeroValue, typeInfo, h1, h2, hc1, newRow]
theorem Do.store {t : TypeId} {x y : Operand} {g off : Nat} {v : Value} {cs cs' : List Value} {T : TypeId} {L' : List Res} [i : PlainT P t] (h : ev σ x = some (.pointer (some ⟨g, off, none⟩))) (h1 : ev σ y = some v) (hv : v.oneCell' = true)
    (u : Upd L (Blk g cs T (0, 0)) (Blk g cs' T (0, 0)) L') (hset : SetAt cs off v cs') (k : K σ L') :
    Do P N ⟨none, .store t x y, ty, pos, af, gd⟩ K σ e L := fun a w ha hs K' Q' hK => by
  obtain ⟨rfl, hlt⟩ := hset.eq
  obtain ⟨R, f1, f2⟩ := u.split
  have hs1 := hs.ent f1
  have hcell : w.cell? ⟨g, off, none⟩ = some cs[off] := (Rd.blk (R := R) (cs := cs) (T := T) (fz := (0, 0)) .zero (by rw [nth_eq]; exact List.getElem?_eq_getElem hlt)).at hs1
  have hfz : w.frozen? ⟨g, off, none⟩ = false := by
    obtain ⟨h0, h1', b, c, d', hA, hR⟩ := hs1.2.2.2
    have := c _ _ hA
    simp only [hp] at this
    simp [World.frozen?, this]
  have hcs : v.cells = #[v] := by cases v <;> first | rfl | simp [Value.oneCell'] at hv
  refine upon_skip_do (w' := w.setCell ⟨g, off, none⟩ v) ?_ (hK _ _ _ _ k ha ((hs1.setCell v).ent f2))
  simp only [execOp, ha.ev h, ha.ev h1, Instr.storeAt, Instr.sureAddr, storeVar, hcs]
  simp [i.siz, storeCells, run_store, hv, hcell, hfz, Addr.add]
end
end Go.Bs
