/- Common operations of statements whose order is open. -/
import Derived.Test.YtnifiamfdkdkkaaDag
import Derived.Test.YtnifiamfdkdkkaaItems
namespace Go.Proofs
set_option linter.unusedVariables false
open Go.Bs
set_option linter.unusedSimpArgs false
section
variable {P : Program} {N : Fr} {ops : Array Oper} {e : World} {σ0 : Env} {L0 : List Res} {D : List DOp}
theorem evs1 {σ : Env} {k : Nat} {v : Value} (h : get σ k = some v) : evs σ [.tmp k] = some [v] := by simp [evs, ev, h]
theorem evs2 {σ : Env} {k j : Nat} {v u : Value} (h : get σ k = some v) (h2 : get σ j = some u) : evs σ [.tmp k, .tmp j] = some [v, u] := by simp [evs, ev, h, h2]
theorem Do.ent2 {o : Oper} {K : Env → List Res → Prop} {σ : Env} {L L' : List Res} (f : Ent L L') (h : Do P N o K σ e L') : Do P N o K σ e L := fun a w ha hs => h a w ha (hs.ent f)
theorem Do.exD {o : Oper} {K : Env → List Res → Prop} {σ : Env} {α : Sort _} {f : α → Res} {R : List Res} (h : ∀ x, Do P N o K σ e (f x :: R)) : Do P N o K σ e (Ex f :: R) := fun a w ha hs => by
  obtain ⟨x, hx⟩ := ex_out hs.2.2.2
  exact h x a w ha ⟨hs.1, hs.2.1, hs.2.2.1, hx⟩
theorem Do.puD {o : Oper} {K : Env → List Res → Prop} {σ : Env} {p : Prop} {R : List Res} (h : p → Do P N o K σ e R) : Do P N o K σ e (Pu p :: R) := fun a w ha hs => by
  obtain ⟨hp, hx⟩ := pu_out hs.2.2.2
  exact h hp a w ha ⟨hs.1, hs.2.1, hs.2.2.1, hx⟩
theorem Do.sepD {o : Oper} {K : Env → List Res → Prop} {σ : Env} {L : List Res} {p : Prop} (f : ∀ h, sepL L h → p) (h : p → Do P N o K σ e L) : Do P N o K σ e L := fun a w ha hs => h (f _ hs.2.2.2) a w ha hs
/-- What a list of memory takes out of the middle. -/
theorem pull_mid {M L R : List Res} {A : Res} (p : Pull L A R) : Pull (M ++ L) A (M ++ R) := by
  induction M with
  | nil => exact p
  | cons _ _ ih => exact .succ ih
theorem Txts.mid {M L : List Res} {l : List Txt} (h : Txts L l) : Txts (M ++ L) l := fun a ha => (h a ha).ent (ent_app_drop M)
theorem RdSl.mid {M L : List Res} {n k : Nat} {v : Value} {xs : List Value} (h : RdSl L n v k xs) : RdSl (M ++ L) n v k xs := fun w hs => h w (ent_app_drop M w hs)
theorem dall_nil {p : DOp → Prop} : ∀ y ∈ ([] : List DOp), p y := fun y h => by cases h
theorem dall_cons {p : DOp → Prop} {x : DOp} {l : List DOp} (h : p x) (h2 : ∀ y ∈ l, p y) : ∀ y ∈ x :: l, p y := fun y hy => by
  rcases List.mem_cons.1 hy with rfl | hy
  · exact h
  · exact h2 y hy
/-- A block that is only read from now on. -/
theorem blk_view {g k : Nat} {cs : List Value} {T : TypeId} {fz : Nat × Nat} {R : List Res} (hk : cs.length = k) (hm : k ≤ maxLen) : Ent (Blk g cs T fz :: R) (View 1 (.slice (some ⟨g, 0, none⟩) k k) k cs :: R) :=
  fun _ => sepL_head fun h hA => (RdSl.blk (L := [Blk g cs T fz]) .zero hk hm) h ⟨h, fun _ => none, fun _ _ _ => rfl, Heap.le_refl _, (fun _ _ e => by cases e), hA, trivial⟩
/-- Bytes that are owned. -/
abbrev dBytes (i d : Nat) (eats : List Nat) (b : List UInt8) : DOp := ⟨i, d, eats, fun v => ∃ ad c, v = .slice ad b.length c, fun v => [OwnB v b]⟩
/-- Bytes made a string. -/
abbrev dStr (i d k : Nat) (b : List UInt8) : DOp := ⟨i, d, [k], fun v => v = .string (str b), fun _ => []⟩
theorem dStr_ok {i d k dk t T el n ty : Nat} {b : List UInt8} {eats : List Nat} {pos : String} {af : Array Edge} {gd : Option (Nat × Bool)} [s1 : SlT P t el n] [s2 : IntT P el .u8] [s3 : StrT P T]
    (ho : ops[i]? = some ⟨some d, .convert t T (.tmp dk), ty, pos, af, gd⟩) (hg : GuardOk ops σ0 ⟨some d, .convert t T (.tmp dk), ty, pos, af, gd⟩) (hd : Nat.blt d N.n = true) (he : eaten D (dStr i d k b) = [dBytes k dk eats b]) : StepD P N ops e σ0 L0 D (dStr i d k b) := by
  refine ⟨_, ho, hg, fun V σr M h3 hy => ?_⟩
  rw [he] at hy ⊢
  obtain ⟨s, _⟩ := hy _ (List.mem_cons_self ..)
  exact Do.val (v := .string (str b)) (Val.bytes s (RdSl.own .zero)) hd ⟨_, rfl, rfl, Ent.drop Ent.rfl⟩
/-- A call that takes up nothing of the others. -/
theorem dCall_ok {x : DOp} {f g ty : Nat} {xs : List Operand} {vs : List Value} {ats : Array TypeId} {pos : String} {af : Array Edge} {gd : Option (Nat × Bool)} [c : CallT P f g]
    (ho : ops[x.i]? = some ⟨some x.d, .call { callee := .value (.func f), args := xs.toArray, argTypes := ats }, ty, pos, af, gd⟩) (hg : GuardOk ops σ0 ⟨some x.d, .call { callee := .value (.func f), args := xs.toArray, argTypes := ats }, ty, pos, af, gd⟩) (hd : Nat.blt x.d N.n = true)
    (he : eaten D x = []) (hx : ∀ σr, (∀ k v, get σ0 k = some v → get σr k = some v) → evs σr xs = some vs) (h : ∀ M : List Res, Ct P g vs.toArray e (M ++ L0) (fun v L' => x.ok v ∧ Ent L' (x.mem v ++ (M ++ L0)))) : StepD P N ops e σ0 L0 D x := by
  refine ⟨_, ho, hg, fun V σr M h3 hy => ?_⟩
  rw [he]
  exact Do.call (hx σr h3) hd (h M) fun v L' ⟨h1, h2⟩ => ⟨v, rfl, h1, h2⟩
/-- A list of nothing, to be put behind. -/
abbrev dNil (i d el n : Nat) : DOp := ⟨i, d, [], fun v => ∃ g, v = .slice (some ⟨g, 0, none⟩) 0 0, fun v => [Own el n v 0 []]⟩
theorem dNil_ok {i d t el n b ty : Nat} {z : Value} {pos : String} {af : Array Edge} {gd : Option (Nat × Bool)} [s : SlT P t el n] [j : ElT P el z n b]
    (ho : ops[i]? = some ⟨some d, .buildSlice t 0 #[], ty, pos, af, gd⟩) (hg : GuardOk ops σ0 ⟨some d, .buildSlice t 0 #[], ty, pos, af, gd⟩) (hd : Nat.blt d N.n = true) (hz : z.cells.size = n) (he : eaten D (dNil i d el n) = []) : StepD P N ops e σ0 L0 D (dNil i d el n) := by
  refine ⟨_, ho, hg, fun V σr M h3 hy => ?_⟩
  rw [he]
  refine Do.buildSlice (parts := []) (vs := []) (cs := []) rfl hd (by simp) rfl .nil hz (fun g => ⟨_, rfl, ⟨g, rfl⟩, ?_⟩)
  have h := own_in (E := el) (n := n) (k := 0) (g := g) (cap := 0) (cur := []) (R := M ++ L0) (by omega) (by simp [maxLen]) (by simp)
  simp only [Nat.zero_mul, List.take_zero] at h
  exact h
/-- A list's copy: 'append([]T{}, l..)'. -/
abbrev dClone (i d k m el n : Nat) (ys : List Value) : DOp := ⟨i, d, [k], fun v => ∃ ad c, v = .slice ad m c, fun v => [Own el n v m ys]⟩
theorem dClone_ok {i d k dk dl t el n b m ty : Nat} {z u : Value} {ys : List Value} {pos : String} {af : Array Edge} {gd : Option (Nat × Bool)} [s : SlT P t el n] [j : ElT P el z n b]
    (ho : ops[i]? = some ⟨some d, .call { callee := .builtin .append, args := #[.tmp dk, .tmp dl], argTypes := #[t, t] }, ty, pos, af, gd⟩) (hg : GuardOk ops σ0 ⟨some d, .call { callee := .builtin .append, args := #[.tmp dk, .tmp dl], argTypes := #[t, t] }, ty, pos, af, gd⟩) (hd : Nat.blt d N.n = true)
    (he : eaten D (dClone i d k m el n ys) = [dNil k dk el n]) (hu : get σ0 dl = some u) (hr : RdSl L0 n u m ys) (hn : Nat.blt 0 n = true) (hz : z.cells.size = n) (h1 : ∀ c ∈ ys, c.oneCell' = true) (h63 : m ≤ maxLen) (hb : m * b ≤ 140737488355328) : StepD P N ops e σ0 L0 D (dClone i d k m el n ys) := by
  refine ⟨_, ho, hg, fun V σr M h3 hy => ?_⟩
  rw [he] at hy ⊢
  obtain ⟨s, _⟩ := hy _ (List.mem_cons_self ..)
  rw [show mems V [dNil k dk el n] = [Own el n (V k) 0 []] by simp [mems]]
  refine Do.append (x := .tmp dk) (y := .tmp dl) (k := 0) (R := M ++ L0) s (h3 _ _ hu) hd .zero (RdSl.mid hr) hn hz h1 (by omega) (by rw [Nat.zero_add]; exact hb) fun ad c _ => ?_
  rw [Nat.zero_add, List.nil_append]
  exact ⟨_, rfl, ⟨ad, c, rfl⟩, Ent.rfl⟩
/-- A literal of bytes: made, and its end marked. -/
def litBlk (cs : List Value) (fz : Nat × Nat) (v : Value) : List Res := match v with | .slice (some ⟨g, _, _⟩) _ _ => [Blk g cs tU8 fz] | _ => []
abbrev dLit (i d : Nat) (b : List UInt8) : DOp := ⟨i, d, [], fun v => ∃ g, v = .slice (some ⟨g, 0, none⟩) b.length b.length, litBlk (b.map u8) (0, 0)⟩
abbrev dLitC (i d k : Nat) (b : List UInt8) : DOp := ⟨i, d, [k], fun v => ∃ g, v = .slice (some ⟨g, 0, none⟩) b.length b.length, litBlk (b.map u8) (b.length, b.length + 1)⟩
theorem dLit_ok {i d t len by' ty : Nat} {z : Value} {b : List UInt8} {parts : List (Nat × Operand)} {vs : List (Nat × Value)} {pos : String} {af : Array Edge} {gd : Option (Nat × Bool)} [s : SlT P t tU8 1] [j : ElT P tU8 z 1 by']
    (ho : ops[i]? = some ⟨some d, .buildSlice t len parts.toArray, ty, pos, af, gd⟩) (hg : GuardOk ops σ0 ⟨some d, .buildSlice t len parts.toArray, ty, pos, af, gd⟩) (hd : Nat.blt d N.n = true)
    (he : eaten D (dLit i d b) = []) (hv : ∀ σ, evp σ parts = some vs) (hn : Nat.ble (len * 1) 16777216 = true) (hlen : vs.length = len) (hc : Bs.Parts 1 0 vs (b.map u8)) (hz : z.cells.size = 1) (hb : b.length = len) : StepD P N ops e σ0 L0 D (dLit i d b) := by
  refine ⟨_, ho, hg, fun V σr M h3 hy => ?_⟩
  rw [he]
  refine Do.buildSlice (hv σr) hd hn hlen hc hz (fun g => ⟨_, rfl, ⟨g, by rw [hb]⟩, ?_⟩)
  exact Ent.rfl
theorem dLitC_ok {i d k dk t ty : Nat} {b : List UInt8} {pos : String} {af : Array Edge} {gd : Option (Nat × Bool)} [s : SlT P t tU8 1] [j : IntT P tU8 .u8]
    (ho : ops[i]? = some ⟨some d, .convert t t (.tmp dk), ty, pos, af, gd⟩) (hg : GuardOk ops σ0 ⟨some d, .convert t t (.tmp dk), ty, pos, af, gd⟩) (hd : Nat.blt d N.n = true)
    (he : eaten D (dLitC i d k b) = [dLit k dk b]) : StepD P N ops e σ0 L0 D (dLitC i d k b) := by
  refine ⟨_, ho, hg, fun V σr M h3 hy => ?_⟩
  rw [he] at hy ⊢
  obtain ⟨s, g, hv⟩ := hy _ (List.mem_cons_self ..)
  dsimp only at s hv
  rw [show mems V [dLit k dk b] = litBlk (b.map u8) (0, 0) (V k) by simp [mems]]
  rw [hv] at s ⊢
  exact Do.convSl s hd .zero ⟨_, rfl, ⟨g, rfl⟩, by
    simp only [litBlk, List.length_map]
    exact Ent.rfl⟩
end
end Go.Proofs
