/- Tests that are decided on the way. -/
import Derived.Test.YtnifiamfdkdkkaaOps4
namespace Go.Bs
set_option linter.unusedVariables false
set_option linter.unusedSimpArgs false
section
variable {P : Program} {N : Fr} {Q : Goal} {σ : Env} {e : World} {L : List Res} {all : Array Oper} {rest : List Oper}
variable {d : Nat} {op : Op} {ty : TypeId} {pos : String} {af : Array Edge} {gd : Option (Nat × Bool)} {K : Env → List Res → Prop}
theorem Val.yes {p : Prop} [Decidable p] (h : Val P N op ty (.bool (decide p)) σ e L) (hp : p) : Val P N op ty (.bool true) σ e L := by simpa [hp] using h
theorem Val.no {p : Prop} [Decidable p] (h : Val P N op ty (.bool (decide p)) σ e L) (hp : ¬ p) : Val P N op ty (.bool false) σ e L := by simpa [hp] using h
theorem O.dec {p : Prop} [Decidable p] (h : Val P N op ty (.bool (decide p)) σ e L) (hd : Nat.blt d N.n = true) (h1 : p → O P N all rest Q ((d, .bool true) :: σ) e L) (h2 : ¬ p → O P N all rest Q ((d, .bool false) :: σ) e L) :
    O P N all (⟨some d, op, ty, pos, af, none⟩ :: rest) Q σ e L := by
  by_cases hp : p
  · exact O.val _ (h.yes hp) hd (h1 hp)
  · exact O.val _ (h.no hp) hd (h2 hp)
theorem O.boolCases {b : Bool} (h : Val P N op ty (.bool b) σ e L) (hd : Nat.blt d N.n = true) (h1 : b = true → O P N all rest Q ((d, .bool true) :: σ) e L) (h2 : b = false → O P N all rest Q ((d, .bool false) :: σ) e L) :
    O P N all (⟨some d, op, ty, pos, af, none⟩ :: rest) Q σ e L := by
  cases b with
  | true => exact O.val _ h hd (h1 rfl)
  | false => exact O.val _ h hd (h2 rfl)
theorem O.keep {l : List Oper} (σ' : Env) (f : ∀ k v, get σ' k = some v → get σ k = some v) (h : O P N all l Q σ' e L) : O P N all l Q σ e L := h.env f
theorem W.keep {c : Code} (σ' : Env) (f : ∀ k v, get σ' k = some v → get σ k = some v) (h : W P N c Q σ' e L) : W P N c Q σ e L := h.env f
theorem Fin.env {x : Exit} {σ' : Env} {rs : Array ResultVar} {R : Ending → World → Prop} (h : Fin (BodyQ rs R) x σ' e L) (hf : ∀ vs, retvs σ' rs.toList = some vs → retvs σ rs.toList = some vs) : Fin (BodyQ rs R) x σ e L := fun w hs => by
  have := h w hs
  cases x <;> simp only [BodyQ] at this ⊢
  all_goals (obtain ⟨vs, h1, h2⟩ := this; exact ⟨vs, hf vs h1, h2⟩)

class BuildT (P : Program) (t : TypeId) (places : outParam (Array (Nat × Nat))) (z : outParam (Array Value)) : Prop where
  run : ∀ (pv : Array (Nat × Value)) (cells : Array Value) (w : World), Instr.fill (places[·]?) z pv.toList = some cells → (Instr.build t pv).run P w = .ok (.agg cells) w
theorem Val.build {t : TypeId} {places : Array (Nat × Nat)} {z : Array Value} {cells : List Value} {parts : List (Nat × Operand)} {vs : List (Nat × Value)} [i : BuildT P t places z] (h : evp σ parts = some vs) (hc : Instr.fill (places[·]?) z vs = some cells.toArray) :
    Val P N (.build t parts.toArray) ty (.agg cells.toArray) σ e L := fun a w ha _ _ _ _ _ => by
  have hpv : (parts.toArray.map fun x => match x with | (i, x) => (i, a.eval x)).toList = vs := by
    have := ha.evp h
    simpa using this
  have := i.run (parts.toArray.map fun x => match x with | (i, x) => (i, a.eval x)) cells.toArray w (by rw [hpv]; exact hc)
  simp only [execOp, Sem.run_bind, Sem.run_pure, this, Result.andThen_ok]
theorem Val.max {k k' : IntKind} {m n : Int} {x y : Operand} {ats : Array TypeId} (h : ev σ x = some (.int k m)) (h1 : ev σ y = some (.int k' n)) : Val P N (.call { callee := .builtin .max, args := #[x, y], argTypes := ats }) ty (.int k (if n > m then n else m)) σ e L := fun a w ha _ _ _ _ _ => by
  simp [execOp, resolve, invoke, builtin, ha.ev h, ha.ev h1, run_max_int2]
theorem Val.min {k k' : IntKind} {m n : Int} {x y : Operand} {ats : Array TypeId} (h : ev σ x = some (.int k m)) (h1 : ev σ y = some (.int k' n)) : Val P N (.call { callee := .builtin .min, args := #[x, y], argTypes := ats }) ty (.int k (if n < m then n else m)) σ e L := fun a w ha _ _ _ _ _ => by
  simp [execOp, resolve, invoke, builtin, ha.ev h, ha.ev h1, run_min_int2]
theorem view_cutLo {n k c lo : Nat} {ad : Option Addr} {xs : List Value} {R : List Res} (h : lo ≤ k) : Ent (View n (.slice ad k c) k xs :: R) (View n (.slice (cutAt ad c lo n) (k - lo) (c - lo)) (k - lo) (xs.drop (lo * n)) :: R) :=
  fun _ => sepL_head fun _ x => View.cutLo x h
theorem Val.lssStr {t t' : TypeId} {x y : Operand} {s u : List UInt8} (h : ev σ x = some (.string (str s))) (h1 : ev σ y = some (.string (str u))) : Val P N (.binOp .lss t x y t') ty (.bool (Op.bytesLess s u)) σ e L := fun a w ha _ _ _ _ _ => by
  simp [execOp, ha.ev h, ha.ev h1, eqGuard, binOp, Op.stringOp, toList_str]
theorem Val.eqlBool {t t' : TypeId} {x y : Operand} {b c : Bool} [i : BoolT P t] (h : ev σ x = some (.bool b)) (h1 : ev σ y = some (.bool c)) : Val P N (.binOp .eql t x y t') ty (.bool (b == c)) σ e L := fun a w ha _ _ _ _ _ => by
  simp [execOp, ha.ev h, ha.ev h1, eqGuard, run_eql_bool w t b c i.und]
theorem Val.neqBool {t t' : TypeId} {x y : Operand} {b c : Bool} [i : BoolT P t] (h : ev σ x = some (.bool b)) (h1 : ev σ y = some (.bool c)) : Val P N (.binOp .neq t x y t') ty (.bool (!(b == c))) σ e L := fun a w ha _ _ _ _ _ => by
  simp [execOp, ha.ev h, ha.ev h1, eqGuard, run_neq_bool w t b c i.und]
theorem freeze_os (w : World) (a : Addr) (n : Nat) : (w.freeze a n).os = w.os ∧ (w.freeze a n).tape = w.tape ∧ (w.freeze a n).output = w.output := by
  unfold World.freeze; split <;> exact ⟨rfl, rfl, rfl⟩
theorem freeze_heap (w : World) (g m : Nat) (cs : Array Value) (T : TypeId) (h : w.heap[g]? = some (.cells cs T (0, 0))) (k : Nat) :
    (w.freeze ⟨g, m, none⟩ 1).heap[k]? = if k = g then some (.cells cs T (m, m + 1)) else w.heap[k]? := by
  simp only [World.freeze, if_neg (show ¬ (1 = 0) by omega)]
  rw [Array.getElem?_modify]
  by_cases e : g = k
  · subst e; rw [if_pos rfl, if_pos rfl, h]; rfl
  · rw [if_neg e, if_neg (Ne.symm e)]
/-- '[]byte(s)': new memory, of which what stands is read. -/
theorem Do.ofStr {t T el n : Nat} {x : Operand} {l : List UInt8} [i : SlT P t el n] [j : IntT P el .u8] [s : StrT P T] (h : ev σ x = some (.string (str l))) (hl : l.length ≤ maxLen) (hd : Nat.blt d N.n = true)
    (k : ∀ ad c, K ((d, .slice ad l.length c) :: σ) (View 1 (.slice ad l.length c) l.length (l.map u8) :: L)) :
    Do P N ⟨some d, .convert T t x, ty, pos, af, gd⟩ K σ e L := fun a w ha hs K' Q' hK => by
  have hsz := size_str l
  have hge := grownCap_ge w l.length 0 el
  have hcm := grownCap_le_maxLen w l.length 0 el hl
  have hdat : (str l).data.map (fun b => Value.int .u8 b.toNat) = (l.map u8).toArray := by simp [str]; intro a _; rfl
  obtain ⟨arr, harr⟩ : ∃ arr : Array Value, arr = (l.map u8).toArray ++ Array.replicate (grownCap w l.length 0 el - l.length) (Value.int .u8 0) := ⟨_, rfl⟩
  have hs1 : Sat e L w.drew := hs
  have hnew : (w.drew.alloc (.cells arr el)).heap[w.heap.size]? = some (.cells arr el (0, 0)) := heap_alloc_new w.drew _
  refine upon_ok_do (w' := (w.drew.alloc (.cells arr el)).freeze ⟨w.heap.size, arr.size, none⟩ 1) (v := .slice (some ⟨w.heap.size, 0, none⟩) l.length (grownCap w l.length 0 el)) ?_ (hK _ _ _ _ (k _ _) (ha.put hd _) ?_)
  · have hsh : ∀ o : Array Value, (w.drew.alloc (.cells o el)).shape? w.heap.size = some (el, o.size) := fun o => by
      unfold World.shape?
      rw [show (w.drew.alloc (.cells o el)).heap[w.heap.size]? = some (.cells o el) from heap_alloc_new w.drew _]
    have hrun : (Conv.stringToBytes el (str l)).run P w = .ok (.slice (some ⟨w.heap.size, 0, none⟩) l.length (grownCap w l.length 0 el)) ((w.drew.alloc (.cells arr el)).freeze ⟨w.heap.size, arr.size, none⟩ 1) := by
      unfold Conv.stringToBytes
      simp only [Sem.run_bind, run_choose, Question.forced, Bool.false_eq_true, if_false, Result.andThen_ok, hsz, hdat]
      rw [show (Question.appendCap l.length 0 el).cut (w.tape w.drawn (Question.appendCap l.length 0 el)) = grownCap w l.length 0 el from rfl, ← harr]
      simp only [newRow, Sem.run_bind, run_newObj, Result.andThen_ok, Sem.run_pure, markStringish, run_shape]
      rw [show (World.shape? { heap := w.heap.push (.cells arr el), tape := w.tape, drawn := w.drawn + 1, os := w.os, output := w.output } w.heap.size) = some (el, arr.size) from hsh arr]
      rfl
    simp only [execOp, ha.ev h, convert, Sem.run_bind, run_underlying i.und, run_underlying j.und, run_underlying s.und, Result.andThen_ok, hrun, Sem.run_pure]
  · have hs2 := hs1.alloc (.cells arr el)
    have hf := freeze_os (w.drew.alloc (.cells arr el)) ⟨w.heap.size, arr.size, none⟩ 1
    refine hs2.change hf.1 hf.2.1 hf.2.2 fun h1 hle hA => ?_
    have hA' : h1 w.heap.size = some (.cells arr el) := hA
    refine ⟨fun b => if b = w.heap.size then some (.cells arr el (arr.size, arr.size + 1)) else none, ?_, ?_, ?_, ?_⟩
    · intro b o hb
      simp only [hp]
      rw [freeze_heap _ _ _ _ _ hnew]
      by_cases eb : b = w.heap.size
      · rw [if_pos eb]; simpa [eb] using hb
      · simp [eb] at hb
    · refine ⟨by simp, some ⟨w.heap.size, 0, none⟩, _, rfl, hge, hcm, (fun e => by cases e), fun j u hj => ⟨w.heap.size, 0, rfl, ?_⟩⟩
      have hlt : j < l.length := by have := (List.getElem?_eq_some_iff.1 hj).1; simpa using this
      unfold Heap.cell
      simp only [if_true, Nat.zero_add, Option.isSome_none, Bool.false_eq_true, if_false]
      rw [harr, Array.getElem?_append_left (by simpa using hlt)]
      simpa using hj
    · intro b o hb hn
      by_cases eb : b = w.heap.size
      · subst eb; rw [hA'] at hn; cases hn
      · simp [eb] at hb
    · intro b hn o ho
      have hne : b ≠ w.heap.size := by rintro rfl; rw [hA'] at hn; cases hn
      simp only [hp] at ho ⊢
      rw [freeze_heap _ _ _ _ _ hnew, if_neg hne]
      exact ho
/-- Where ways meet again. -/
theorem W.cut {x y : Code} (K : Env → World → Prop) (h1 : W P N x (thenQ K Q) σ e L) (h2 : ∀ σ' w, K σ' w → ∀ a, Has N σ' a → y.wp P (WQ N Q) a w) : W P N (.seq x y) Q σ e L :=
  W.seq (W.mono h1 fun x σ w q => by cases x <;> first | exact h2 _ _ q | exact q)

/-- Struct values: loaded, stored. -/
theorem Val.loadAgg {t n : Nat} {x : Operand} {g o : Nat} {cs : List Value} [i : AggT P t n] (h : ev σ x = some (.pointer (some ⟨g, o, none⟩))) (hl : cs.length = n) (r : ∀ j u, cs[j]? = some u → Rd L ⟨g, o + j, none⟩ u) :
    Val P N (.load t x) ty (.agg cs.toArray) σ e L := fun a w ha hs _ _ _ _ => by
  have h1 := run_loadCells_list (P := P) w ⟨g, o, none⟩ cs (fun j u hj => by rw [Addr.add_lit]; exact (r j u hj).at hs)
  rw [hl] at h1
  simp [execOp, ha.ev h, Instr.loadAt, Instr.sureAddr, loadVar, i.ag, i.siz, h1]
inductive SetAts : List Value → Nat → List Value → List Value → Prop
  | nil {l : List Value} {n : Nat} : SetAts l n [] l
  | cons {l l' l'' : List Value} {n : Nat} {v : Value} {vs : List Value} : SetAt l n v l' → SetAts l' (n + 1) vs l'' → SetAts l n (v :: vs) l''
theorem run_storeCells {g : Nat} {T : TypeId} {R : List Res} {vs : List Value} {cs cs' : List Value} {k off i : Nat} {w : World} (hst : SetAts cs k vs cs') (hk : off + i = k) (hs : Sat e (Blk g cs T (0, 0) :: R) w) (h1 : ∀ v ∈ vs, v.oneCell' = true) :
    ∃ w', (storeCells ⟨g, off, none⟩ vs i).run P w = .ok () w' ∧ Sat e (Blk g cs' T (0, 0) :: R) w' := by
  induction hst generalizing w i with
  | nil => exact ⟨w, rfl, hs⟩
  | cons hset _ ih =>
    rename_i l l' l'' n v vs _
    obtain ⟨rfl, hlt⟩ := hset.eq
    subst hk
    have hcell : w.cell? ⟨g, off + i, none⟩ = some l[off + i] := (Rd.blk (R := R) (cs := l) (T := T) (fz := (0, 0)) .zero (by rw [nth_eq]; exact List.getElem?_eq_getElem hlt)).at hs
    have hfz : w.frozen? ⟨g, off + i, none⟩ = false := by
      obtain ⟨h0, h1', b, c, d', hA, hR⟩ := hs.2.2.2
      have := c _ _ hA
      simp only [hp] at this
      simp [World.frozen?, this]
    obtain ⟨w', e1, e2⟩ := ih (i := i + 1) (by omega) (hs.setCell (off := off + i) v) (fun u hu => h1 u (List.mem_cons_of_mem _ hu))
    refine ⟨w', ?_, e2⟩
    simp only [storeCells, Sem.run_bind, Addr.add_lit, run_store P w _ v _ (h1 v (List.mem_cons_self ..)), hcell, hfz]
    exact e1
theorem Do.storeAgg {t n : Nat} {x y : Operand} {g off : Nat} {vs : List Value} {cs cs' : List Value} {T : TypeId} {L' : List Res} [i : AggT P t n] (h : ev σ x = some (.pointer (some ⟨g, off, none⟩))) (h1 : ev σ y = some (.agg vs.toArray)) (hn : vs.length = n) (hv : ∀ v ∈ vs, v.oneCell' = true)
    (u : Upd L (Blk g cs T (0, 0)) (Blk g cs' T (0, 0)) L') (hset : SetAts cs off vs cs') (k : K σ L') :
    Do P N ⟨none, .store t x y, ty, pos, af, gd⟩ K σ e L := fun a w ha hs K' Q' hK => by
  obtain ⟨R, f1, f2⟩ := u.split
  obtain ⟨w', e1, e2⟩ := run_storeCells (P := P) (off := off) (i := 0) hset rfl (hs.ent f1) hv
  refine upon_skip_do (w' := w') ?_ (hK _ _ _ _ k ha (e2.ent f2))
  simp [execOp, ha.ev h, ha.ev h1, Instr.storeAt, Instr.sureAddr, storeVar, Value.cells, i.siz, hn, e1]
end
end Go.Bs
