/- Heaps in parts: a list of assertions holds of a memory if it can be parted among them. -/
import Derived.WalkKit
namespace Go.Bs
set_option linter.unusedVariables false
set_option linter.unusedSimpArgs false

/-- A part of a memory. -/
abbrev Heap := Nat → Option Obj
def Heap.le (h k : Heap) : Prop := ∀ b o, h b = some o → k b = some o
def Heap.apart (h k : Heap) : Prop := ∀ b o, h b = some o → k b = none
def Heap.both (h k : Heap) : Heap := fun b => (h b).or (k b)
theorem Heap.le_refl (h : Heap) : Heap.le h h := fun _ _ e => e
theorem Heap.le_trans {h k l : Heap} (a : Heap.le h k) (b : Heap.le k l) : Heap.le h l := fun _ _ e => b _ _ (a _ _ e)
theorem Heap.apart_symm {h k : Heap} (a : Heap.apart h k) : Heap.apart k h := fun b o e => by
  cases hb : h b with
  | none => rfl
  | some o' => rw [a b o' hb] at e; cases e
theorem Heap.apart_le {h h' k k' : Heap} (a : Heap.apart h k) (b : Heap.le h' h) (c : Heap.le k' k) : Heap.apart h' k' := fun i o e => by
  cases hb : k' i with
  | none => rfl
  | some o' => have h1 := c i o' hb; rw [a i o (b _ _ e)] at h1; cases h1
theorem Heap.le_left (h k : Heap) : Heap.le h (Heap.both h k) := fun b o e => by simp [Heap.both, e]
theorem Heap.le_right {h k : Heap} (a : Heap.apart h k) : Heap.le k (Heap.both h k) := fun b o e => by
  simp [Heap.both, Heap.apart_symm a b o e, e]
theorem Heap.both_le {h k l : Heap} (a : Heap.le h l) (b : Heap.le k l) : Heap.le (Heap.both h k) l := fun i o e => by
  simp only [Heap.both] at e
  cases hb : h i with
  | none => rw [hb] at e; exact b _ _ (by simpa using e)
  | some o' => rw [hb] at e; simp at e; subst e; exact a _ _ hb
theorem Heap.both_apart {h k l : Heap} (a : Heap.apart h l) (b : Heap.apart k l) : Heap.apart (Heap.both h k) l := fun i o e => by
  simp only [Heap.both] at e
  cases hb : h i with
  | none => rw [hb] at e; exact b _ _ (by simpa using e)
  | some o' => exact a _ _ hb

/-- An assertion on a part. -/
abbrev Res := Heap → Prop
def sepL : List Res → Heap → Prop
  | [], _ => True
  | A :: L, h => ∃ h1 h2, Heap.apart h1 h2 ∧ Heap.le h1 h ∧ Heap.le h2 h ∧ A h1 ∧ sepL L h2

theorem sepL_mono : ∀ {L : List Res} {h k : Heap}, Heap.le h k → sepL L h → sepL L k
  | [], _, _, _, _ => trivial
  | _ :: _, _, _, hk, ⟨h1, h2, a, b, c, d, e⟩ => ⟨h1, h2, a, Heap.le_trans b hk, Heap.le_trans c hk, d, e⟩

theorem sepL_swap {A B : Res} {L : List Res} {h : Heap} : sepL (A :: B :: L) h → sepL (B :: A :: L) h := by
  rintro ⟨h1, h2, a, b, c, hA, h3, h4, a', b', c', hB, hL⟩
  refine ⟨h3, Heap.both h1 h4, ?_, Heap.le_trans b' c, Heap.both_le b (Heap.le_trans c' c), hB, h1, h4, ?_, Heap.le_left _ _, Heap.le_right ?_, hA, hL⟩
  · exact Heap.apart_symm (Heap.both_apart (Heap.apart_le a (Heap.le_refl _) b') (Heap.apart_symm a'))
  · exact Heap.apart_le a (Heap.le_refl _) c'
  · exact Heap.apart_le a (Heap.le_refl _) c'
theorem sepL_cons {A : Res} {L L' : List Res} {h : Heap} (f : ∀ k, sepL L k → sepL L' k) : sepL (A :: L) h → sepL (A :: L') h := by
  rintro ⟨h1, h2, a, b, c, hA, hL⟩
  exact ⟨h1, h2, a, b, c, hA, f _ hL⟩
theorem sepL_head {A B : Res} {L : List Res} {h : Heap} (f : ∀ k, A k → B k) : sepL (A :: L) h → sepL (B :: L) h := by
  rintro ⟨h1, h2, a, b, c, hA, hL⟩
  exact ⟨h1, h2, a, b, c, f _ hA, hL⟩
theorem sepL_drop {A : Res} {L : List Res} {h : Heap} : sepL (A :: L) h → sepL L h := by
  rintro ⟨_, _, _, _, c, _, hL⟩
  exact sepL_mono c hL

/-- 'L' entails 'L''. -/
def Ent (L L' : List Res) : Prop := ∀ h, sepL L h → sepL L' h
theorem Ent.rfl {L : List Res} : Ent L L := fun _ h => h
theorem Ent.trans {A B C : List Res} (f : Ent A B) (g : Ent B C) : Ent A C := fun h x => g h (f h x)
theorem Ent.cons {A : Res} {L L' : List Res} (f : Ent L L') : Ent (A :: L) (A :: L') := fun _ => sepL_cons f
theorem Ent.drop {A : Res} {L L' : List Res} (f : Ent L L') : Ent (A :: L) L' := fun h x => f h (sepL_drop x)
theorem Ent.nil {L : List Res} : Ent L [] := fun _ _ => trivial

/-- 'R' is 'L' without one 'A'. -/
inductive Pull : List Res → Res → List Res → Prop
  | zero {A : Res} {L : List Res} : Pull (A :: L) A L
  | succ {A B : Res} {L R : List Res} : Pull L A R → Pull (B :: L) A (B :: R)
theorem Pull.out {L R : List Res} {A : Res} (p : Pull L A R) : Ent L (A :: R) := by
  induction p with
  | zero => exact Ent.rfl
  | succ _ ih => exact fun h x => sepL_swap (sepL_cons ih x)
theorem Pull.back {L R : List Res} {A : Res} (p : Pull L A R) : Ent (A :: R) L := by
  induction p with
  | zero => exact Ent.rfl
  | succ _ ih => exact fun h x => sepL_cons ih (sepL_swap x)
theorem Ent.pull {L R L' : List Res} {A : Res} (p : Pull L A R) (f : Ent R L') : Ent L (A :: L') := fun h x => sepL_cons f (p.out h x)

/-- 'L'' is 'L' with 'A'' in the place of 'A'. -/
inductive Upd : List Res → Res → Res → List Res → Prop
  | zero {A A' : Res} {L : List Res} : Upd (A :: L) A A' (A' :: L)
  | succ {A A' B : Res} {L L' : List Res} : Upd L A A' L' → Upd (B :: L) A A' (B :: L')
theorem Upd.split {L L' : List Res} {A A' : Res} (u : Upd L A A' L') : ∃ R, Ent L (A :: R) ∧ Ent (A' :: R) L' := by
  induction u with
  | zero => exact ⟨_, Ent.rfl, Ent.rfl⟩
  | succ _ ih =>
    obtain ⟨R, f, g⟩ := ih
    exact ⟨_ :: R, fun h x => sepL_swap (sepL_cons f x), fun h x => sepL_cons g (sepL_swap x)⟩

/-- Assertions that are made of others. -/
def All (L : List Res) : Res := sepL L
def Ex {α : Sort _} (f : α → Res) : Res := fun h => ∃ x, f x h
def Pu (p : Prop) : Res := fun _ => p
theorem all_out {M L : List Res} : Ent (All M :: L) (M ++ L) := by
  induction M with
  | nil => exact fun h x => sepL_drop x
  | cons A M ih =>
    rintro h ⟨h1, h2, a, b, c, ⟨h3, h4, a', b', c', hA, hM⟩, hL⟩
    refine ⟨h3, Heap.both h4 h2, ?_, Heap.le_trans b' b, Heap.both_le (Heap.le_trans c' b) c, hA, ih _ ⟨h4, h2, Heap.apart_le a c' (Heap.le_refl _), Heap.le_left _ _, Heap.le_right (Heap.apart_le a c' (Heap.le_refl _)), hM, hL⟩⟩
    exact Heap.apart_symm (Heap.both_apart (Heap.apart_symm a') (Heap.apart_symm (Heap.apart_le a b' (Heap.le_refl _))))
theorem all_in {M L : List Res} : Ent (M ++ L) (All M :: L) := by
  induction M with
  | nil =>
    intro h x
    exact ⟨fun _ => none, h, fun _ _ e => by simp at e, fun _ _ e => by simp at e, Heap.le_refl _, trivial, x⟩
  | cons A M ih =>
    rintro h ⟨h1, h2, a, b, c, hA, hL⟩
    obtain ⟨h3, h4, a', b', c', hM, hR⟩ := ih _ hL
    refine ⟨Heap.both h1 h3, h4, Heap.both_apart (Heap.apart_le a (Heap.le_refl _) c') a', Heap.both_le b (Heap.le_trans b' c), Heap.le_trans c' c, ?_, hR⟩
    exact ⟨h1, h3, Heap.apart_le a (Heap.le_refl _) b', Heap.le_left _ _, Heap.le_right (Heap.apart_le a (Heap.le_refl _) b'), hA, hM⟩
theorem ex_out {α : Sort _} {f : α → Res} {L : List Res} {h : Heap} (x : sepL (Ex f :: L) h) : ∃ y, sepL (f y :: L) h := by
  obtain ⟨h1, h2, a, b, c, ⟨y, hy⟩, d⟩ := x
  exact ⟨y, h1, h2, a, b, c, hy, d⟩
theorem ex_in {α : Sort _} {f : α → Res} {L : List Res} (y : α) : Ent (f y :: L) (Ex f :: L) := fun _ => sepL_head fun _ h => ⟨y, h⟩
theorem pu_out {p : Prop} {L : List Res} {h : Heap} (x : sepL (Pu p :: L) h) : p ∧ sepL L h := ⟨x.choose_spec.choose_spec.2.2.2.1, sepL_drop x⟩
theorem pu_in {p : Prop} {L : List Res} (hp : p) : Ent L (Pu p :: L) := fun h x =>
  ⟨fun _ => none, h, fun _ _ e => by simp at e, fun _ _ e => by simp at e, Heap.le_refl _, hp, x⟩

/-- One block. -/
def Ob (g : Nat) (o : Obj) : Res := fun h => h g = some o
def Blk (g : Nat) (cs : List Value) (T : TypeId) (fz : Nat × Nat) : Res := Ob g (.cells cs.toArray T fz)
def nth : List Value → Nat → Option Value
  | [], _ => none
  | v :: _, 0 => some v
  | _ :: l, n + 1 => nth l n
theorem nth_eq : ∀ (l : List Value) (n : Nat), nth l n = l[n]?
  | [], _ => by simp [nth]
  | _ :: _, 0 => by simp [nth]
  | _ :: l, n + 1 => by simp [nth, nth_eq l n]
/-- A list, one place of it written. -/
inductive SetAt : List Value → Nat → Value → List Value → Prop
  | zero {x v : Value} {l : List Value} : SetAt (x :: l) 0 v (v :: l)
  | succ {x v : Value} {l l' : List Value} {n : Nat} : SetAt l n v l' → SetAt (x :: l) (n + 1) v (x :: l')
theorem SetAt.eq {l l' : List Value} {n : Nat} {v : Value} (h : SetAt l n v l') : l' = l.set n v ∧ n < l.length := by
  induction h with
  | zero => simp
  | succ _ ih => exact ⟨by simp [ih.1], by simp [ih.2]⟩
theorem SetAt.of {l : List Value} {n : Nat} (v : Value) (h : n < l.length) : SetAt l n v (l.set n v) := by
  induction l generalizing n with
  | nil => simp at h
  | cons x l ih =>
    cases n with
    | zero => exact .zero
    | succ n => exact .succ (ih (by simpa using h))
/-- All blocks that were there in a world 'w0'. -/
def Base (w0 : World) : Res := fun h => ∀ b, b < w0.heap.size → h b = w0.heap[b]?

/-- A world's memory. -/
def hp (w : World) : Heap := fun b => w.heap[b]?
/-- A world of the streams of 'e', whose memory can be parted. -/
def Sat (e : World) (L : List Res) (w : World) : Prop := w.os = e.os ∧ w.tape = e.tape ∧ w.output = e.output ∧ sepL L (hp w)
theorem Sat.ent {e : World} {L L' : List Res} {w : World} (h : Sat e L w) (f : Ent L L') : Sat e L' w := ⟨h.1, h.2.1, h.2.2.1, f _ h.2.2.2⟩
theorem Sat.drawn {e : World} {L : List Res} {w : World} (h : Sat e L w) (n : Nat) : Sat e L { w with drawn := n } := h

/-- The cell at an address, of a part. -/
def Heap.cell (h : Heap) (a : Addr) : Option Value :=
  match h a.block with
  | some (.cells c _ _) => if a.spot.isSome then none else c[a.off]?
  | _ => none
theorem cell_hp (w : World) (a : Addr) : w.cell? a = (hp w).cell a := rfl
theorem Heap.cell_le {h k : Heap} (l : Heap.le h k) {a : Addr} {v : Value} (x : h.cell a = some v) : k.cell a = some v := by
  unfold Heap.cell at *
  cases hb : h a.block with
  | none => rw [hb] at x; cases x
  | some o => rw [l _ _ hb]; rw [hb] at x; exact x

/-- Whatever 'L' holds of has 'v' at 'p'. -/
def Rd (L : List Res) (p : Addr) (v : Value) : Prop := ∀ h, sepL L h → h.cell p = some v
theorem Rd.at {L : List Res} {p : Addr} {v : Value} {e w : World} (r : Rd L p v) (h : Sat e L w) : w.cell? p = some v := r _ h.2.2.2
theorem Rd.ent {L L' : List Res} {p : Addr} {v : Value} (r : Rd L' p v) (f : Ent L L') : Rd L p v := fun h x => r h (f h x)
theorem Rd.tail {A : Res} {L : List Res} {p : Addr} {v : Value} (r : Rd L p v) : Rd (A :: L) p v := r.ent (Ent.drop Ent.rfl)
theorem Rd.blk {L R : List Res} {g off : Nat} {cs : List Value} {T : TypeId} {fz : Nat × Nat} {v : Value} (p : Pull L (Blk g cs T fz) R) (hv : nth cs off = some v) : Rd L ⟨g, off, none⟩ v := by
  intro h x
  obtain ⟨h1, h2, a, b, c, hA, hL⟩ := p.out h x
  refine Heap.cell_le b ?_
  unfold Heap.cell
  rw [show h1 g = _ from hA]
  rw [nth_eq] at hv
  simpa using hv
theorem Rd.base {L R : List Res} {w0 : World} {p : Addr} {v : Value} (q : Pull L (Base w0) R) (hv : w0.cell? p = some v) : Rd L p v := by
  intro h x
  obtain ⟨h1, h2, a, b, c, hA, hL⟩ := q.out h x
  refine Heap.cell_le b ?_
  have hlt := World.block_lt_of_cell? w0 p hv
  unfold Heap.cell
  rw [hA p.block hlt]
  exact hv

/-- A new block. -/
theorem Sat.alloc {e : World} {L : List Res} {w : World} (h : Sat e L w) (o : Obj) : Sat e (Ob w.heap.size o :: L) (w.alloc o) := by
  refine ⟨h.1, h.2.1, h.2.2.1, fun b => if b = w.heap.size then some o else none, hp w, ?_, ?_, ?_, by simp [Ob], h.2.2.2⟩
  · intro b o' hb
    by_cases e : b = w.heap.size
    · subst e; simp [hp]
    · simp [e] at hb
  · intro b o' hb
    by_cases e : b = w.heap.size
    · subst e; simp at hb; subst hb; exact heap_alloc_new w o
    · simp [e] at hb
  · intro b o' hb
    have hlt : b < w.heap.size := (Array.getElem?_eq_some_iff.1 hb).1
    exact (heap_alloc_old (w := w) (o := o) (h := hlt)).trans hb
/-- One part is changed, the others stay. -/
theorem Sat.change {e : World} {A A' : Res} {R : List Res} {w w' : World} (h : Sat e (A :: R) w) (hos : w'.os = w.os) (htape : w'.tape = w.tape) (hout : w'.output = w.output)
    (f : ∀ h1 : Heap, Heap.le h1 (hp w) → A h1 → ∃ h1' : Heap, Heap.le h1' (hp w') ∧ A' h1' ∧ (∀ b o, h1' b = some o → h1 b = none → hp w b = none) ∧ (∀ b, h1 b = none → ∀ o, hp w b = some o → hp w' b = some o)) :
    Sat e (A' :: R) w' := by
  obtain ⟨h0, h1', h2', k1, k2, a, b, c, hA, hR⟩ := h
  obtain ⟨k1', l, hA', fr, kp⟩ := f k1 b hA
  refine ⟨hos.trans h0, htape.trans h1', hout.trans h2', k1', k2, ?_, l, ?_, hA', hR⟩
  · intro i o hi
    cases hk : k1 i with
    | some o' => exact a i o' hk
    | none =>
      have hn := fr i o hi hk
      cases h2 : k2 i with
      | none => rfl
      | some o' => rw [c i o' h2] at hn; cases hn
  · intro i o hi
    refine kp i ?_ o (c i o hi)
    cases hk : k1 i with
    | none => rfl
    | some o' => rw [a i o' hk] at hi; cases hi
/-- A cell is written. -/
theorem Sat.setCell {e : World} {R : List Res} {w : World} {g off : Nat} {cs : List Value} {T : TypeId} {fz : Nat × Nat} (h : Sat e (Blk g cs T fz :: R) w) (v : Value) :
    Sat e (Blk g (cs.set off v) T fz :: R) (w.setCell ⟨g, off, none⟩ v) := by
  refine h.change rfl rfl rfl fun h1 hle hA => ?_
  refine ⟨fun b => if b = g then some (.cells (cs.set off v).toArray T fz) else none, ?_, by simp [Blk, Ob], ?_, ?_⟩
  · intro b o hb
    by_cases e : b = g
    · subst e
      simp at hb; subst hb
      have := hle b _ hA
      simp only [hp] at this ⊢
      simp [World.setCell, Array.getElem?_modify, this]
    · simp [e] at hb
  · intro b o hb hn
    by_cases e : b = g
    · subst e; rw [show h1 b = _ from hA] at hn; cases hn
    · simp [e] at hb
  · intro b hn o ho
    have : b ≠ g := by rintro rfl; rw [show h1 b = _ from hA] at hn; cases hn
    simp only [hp] at ho ⊢
    simp [World.setCell, Array.getElem?_modify, this.symm, ho]

#print axioms Sat.setCell
end Go.Bs
