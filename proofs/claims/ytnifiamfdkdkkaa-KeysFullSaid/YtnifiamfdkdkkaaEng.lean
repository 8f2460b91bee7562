/- The walk over symbolic memories: what a piece of code comes to, told of the slots that matter and of a list of assertions. -/
import Derived.Test.YtnifiamfdkdkkaaHeap
import Derived.OrdersHeld
namespace Go.Bs
set_option linter.unusedVariables false
set_option linter.unusedSimpArgs false

abbrev Env := List (Nat × Value)
def get : Env → Nat → Option Value
  | [], _ => none
  | (j, v) :: r, k => bif Nat.beq j k then some v else get r k
theorem get_cons (j : Nat) (v : Value) (r : Env) (k : Nat) : get ((j, v) :: r) k = if j = k then some v else get r k := by
  show (bif Nat.beq j k then some v else get r k) = _
  cases h : Nat.beq j k with
  | true => rw [if_pos (Nat.eq_of_beq_eq_true h)]; rfl
  | false => rw [if_neg (Nat.ne_of_beq_eq_false h)]; rfl

/-- A function's slots, how many; the calls that it has put off. -/
structure Fr where
  n : Nat
  ds : List Deferred
structure Has (N : Fr) (σ : Env) (a : Act) : Prop where
  size : a.tmps.size = N.n
  defers : a.defers = N.ds
  val : ∀ k v, get σ k = some v → a.tmps[k]? = some v
theorem Has.put {N : Fr} {σ : Env} {a : Act} {d : Nat} (h : Has N σ a) (hd : Nat.blt d N.n = true) (v : Value) : Has N ((d, v) :: σ) (a.put (some d) v) := by
  have hlt : d < N.n := by rw [← Nat.blt_eq]; exact hd
  refine ⟨by simp [Act.put, h.size], h.defers, fun k u hk => ?_⟩
  rw [get_cons] at hk
  by_cases e : d = k
  · subst e; simp at hk; subst hk
    simp [Act.put, h.size, hlt]
  · rw [if_neg e] at hk
    simp only [Act.put]
    rw [Array.getElem?_setIfInBounds_ne e]
    exact h.val k u hk
theorem Has.sub {N : Fr} {σ σ' : Env} {a : Act} (h : Has N σ a) (f : ∀ k v, get σ' k = some v → get σ k = some v) : Has N σ' a := ⟨h.size, h.defers, fun k v e => h.val k v (f k v e)⟩

def ev (σ : Env) : Operand → Option Value
  | .tmp t => get σ t
  | .const v => some v
  | .global g => some (.pointer (some ⟨g, 0, none⟩))
  | .func f => some (.func (.func f) #[] #[])
theorem Has.ev {N : Fr} {σ : Env} {a : Act} {x : Operand} {v : Value} (h : Has N σ a) (e : ev σ x = some v) : a.eval x = v := by
  cases x with
  | tmp t => have := h.val t v e; simp [Act.eval, this]
  | const u => simpa [Bs.ev, Act.eval] using e
  | global g => simpa [Bs.ev, Act.eval] using e
  | func f => simpa [Bs.ev, Act.eval] using e
def evs (σ : Env) : List Operand → Option (List Value)
  | [] => some []
  | x :: r => match ev σ x, evs σ r with
    | some v, some vs => some (v :: vs)
    | _, _ => none
theorem Has.evs {N : Fr} {σ : Env} {a : Act} (h : Has N σ a) : ∀ {xs : List Operand} {vs : List Value}, evs σ xs = some vs → xs.map a.eval = vs
  | [], vs, e => by simpa [Bs.evs] using e
  | x :: r, vs, e => by
    simp only [Bs.evs] at e
    cases hx : Bs.ev σ x with
    | none => rw [hx] at e; simp at e
    | some v =>
      cases hr : Bs.evs σ r with
      | none => rw [hx, hr] at e; simp at e
      | some us =>
        rw [hx, hr] at e; simp at e; subst e
        simp only [List.map_cons, h.ev hx, h.evs hr]

/-- What is left to show at an exit. -/
abbrev Goal := Exit → Env → World → Prop
def WQ (N : Fr) (Q : Goal) : Exit → Act → World → Prop
  | .panic _, _, _ => False
  | .outgrown, _, _ => False
  | x, a, w => ∃ σ, Has N σ a ∧ Q x σ w
def thenQ (K : Env → World → Prop) (Q : Goal) : Goal
  | .normal, σ, w => K σ w
  | x, σ, w => Q x σ w
def blockQ (id : Nat) (Q : Goal) : Goal
  | .exit i, σ, w => if i = id then Q .normal σ w else Q (.exit i) σ w
  | x, σ, w => Q x σ w

section
variable (P : Program) (N : Fr)
/-- Code comes to its goal. -/
def W (c : Code) (Q : Goal) (σ : Env) (e : World) (L : List Res) : Prop := ∀ a w, Has N σ a → Sat e L w → c.wp P (WQ N Q) a w
def Next (y : Code) (Q : Goal) : Env → World → Prop := fun σ w => ∀ a, Has N σ a → y.wp P (WQ N Q) a w
/-- An exit meets its goal. -/
def Fin (Q : Goal) (x : Exit) (σ : Env) (e : World) (L : List Res) : Prop := ∀ w, Sat e L w → Q x σ w
/-- A list of operations comes to its goal. -/
def O (all : Array Oper) (l : List Oper) (Q : Goal) (σ : Env) (e : World) (L : List Res) : Prop := ∀ a w, Has N σ a → Sat e L w → wpList P all (WQ N Q) l a w
/-- One operation comes to 'K'. -/
def Do (o : Oper) (K : Env → List Res → Prop) (σ : Env) (e : World) (L : List Res) : Prop :=
  ∀ a w, Has N σ a → Sat e L w → ∀ (K' : Act → World → Prop) (Q' : Exit → Act → World → Prop), (∀ σ' L' a' w', K σ' L' → Has N σ' a' → Sat e L' w' → K' a' w') → o.wp P a w K' Q'
/-- One operation has a value, and leaves memory alone. -/
def Val (op : Op) (ty : TypeId) (v : Value) (σ : Env) (e : World) (L : List Res) : Prop :=
  ∀ a w, Has N σ a → Sat e L w → ∀ dst pos af gd, (execOp a.eval ⟨dst, op, ty, pos, af, gd⟩).run P w = .ok (.value v) w
end

section
variable {P : Program} {N : Fr} {Q : Goal} {σ : Env} {e : World} {L : List Res}

theorem W.ent {c : Code} {L' : List Res} (h : W P N c Q σ e L') (f : Ent L L') : W P N c Q σ e L := fun a w ha hs => h a w ha (hs.ent f)
theorem O.ent {all : Array Oper} {l : List Oper} {L' : List Res} (h : O P N all l Q σ e L') (f : Ent L L') : O P N all l Q σ e L := fun a w ha hs => h a w ha (hs.ent f)
theorem W.env {c : Code} {σ' : Env} (h : W P N c Q σ' e L) (f : ∀ k v, get σ' k = some v → get σ k = some v) : W P N c Q σ e L := fun a w ha hs => h a w (ha.sub f) hs
theorem O.env {all : Array Oper} {l : List Oper} {σ' : Env} (h : O P N all l Q σ' e L) (f : ∀ k v, get σ' k = some v → get σ k = some v) : O P N all l Q σ e L := fun a w ha hs => h a w (ha.sub f) hs
theorem Fin.ent {x : Exit} {L' : List Res} (h : Fin Q x σ e L') (f : Ent L L') : Fin Q x σ e L := fun w hs => h w (hs.ent f)

theorem W.mono {c : Code} {Q' : Goal} (h : W P N c Q' σ e L) (f : ∀ x σ w, Q' x σ w → Q x σ w) : W P N c Q σ e L := fun a w ha hs =>
  Code.wp_mono (fun x a w q => by cases x <;> first | exact q | exact q.elim fun σ' h => ⟨σ', h.1, f _ _ _ h.2⟩) (h a w ha hs)
theorem W.seq {x y : Code} (h : W P N x (thenQ (Next P N y Q) Q) σ e L) : W P N (.seq x y) Q σ e L := fun a w ha hs =>
  wp_seq (Code.wp_mono (fun x a w q => by
    cases x <;> first | exact q | exact q.elim fun σ' h => h.2 a h.1) (h a w ha hs))
theorem W.skip (h : Fin Q .normal σ e L) : W P N .skip Q σ e L := fun _ w ha hs => wp_skip ⟨σ, ha, h w hs⟩
theorem W.exit {id : Nat} (h : Fin Q (.exit id) σ e L) : W P N (.exit id) Q σ e L := fun _ w ha hs => wp_exit ⟨σ, ha, h w hs⟩
theorem W.ret (h : Fin Q .ret σ e L) : W P N .ret Q σ e L := fun _ w ha hs => wp_ret ⟨σ, ha, h w hs⟩
theorem W.block {id : Nat} {c : Code} (h : W P N c (blockQ id Q) σ e L) : W P N (.block id c) Q σ e L := fun a w ha hs =>
  wp_block (Code.wp_mono (fun x a w q => by
    cases x with
    | exit i =>
      obtain ⟨σ', h1, h2⟩ := q
      simp only [Exit.inBlock]
      simp only [blockQ] at h2
      split
      · rename_i e; rw [if_pos e] at h2; exact ⟨σ', h1, h2⟩
      · rename_i e; rw [if_neg e] at h2; exact ⟨σ', h1, h2⟩
    | _ => exact q) (h a w ha hs))
theorem W.cond {c : Operand} {x y : Code} {b : Bool} (hc : ev σ c = some (.bool b)) (ht : b = true → W P N x Q σ e L) (hf : b = false → W P N y Q σ e L) : W P N (.cond c x y) Q σ e L := fun a w ha hs =>
  wp_cond_split (t := b) (ha.ev hc) (fun h => ht h a w ha hs) (fun h => hf h a w ha hs)
theorem W.cond_t {c : Operand} {x y : Code} (hc : ev σ c = some (.bool true)) (ht : W P N x Q σ e L) : W P N (.cond c x y) Q σ e L := W.cond hc (fun _ => ht) (fun h => by cases h)
theorem W.cond_f {c : Operand} {x y : Code} (hc : ev σ c = some (.bool false)) (hf : W P N y Q σ e L) : W P N (.cond c x y) Q σ e L := W.cond hc (fun h => by cases h) (fun _ => hf)
theorem W.region {id : Nat} {l : List Oper} (h : O P N l.toArray l Q σ e L) : W P N (.region id l.toArray false) Q σ e L := fun a w ha hs => wp_region_lit (h a w ha hs)
/-- A round's end. -/
def RoundQ {ι : Type} (Iσ : ι → Env) (IL : ι → List Res) (IP : ι → Prop) (μ : ι → Nat) (m : Nat) (e : World) : Env → World → Prop := fun σ' w' => ∃ j, IP j ∧ μ j < m ∧ (∀ k v, get (Iσ j) k = some v → get σ' k = some v) ∧ Sat e (IL j) w'
/-- A loop: 'i' tells the round; slots and memory at its head are 'Iσ i', 'IL i'. -/
theorem W.loop {c : Code} {ι : Type} (Iσ : ι → Env) (IL : ι → List Res) (IP : ι → Prop) (μ : ι → Nat) (i0 : ι) (h0 : IP i0)
    (hσ : ∀ k v, get (Iσ i0) k = some v → get σ k = some v) (hL : Ent L (IL i0))
    (round : ∀ i, IP i → W P N c (thenQ (RoundQ Iσ IL IP μ (μ i) e) Q) (Iσ i) e (IL i)) : W P N (.loop c) Q σ e L := by
  intro a w ha hs b k cs
  have key : ∀ n i, IP i → μ i = n → ∀ a w, Has N (Iσ i) a → Sat e (IL i) w →
      ∃ x a' w', WQ N Q x a' w' ∧ Arrives P (lone (b.at a (.code c :: .inLoop c :: k)) cs w) b k cs x a' w' := by
    intro n
    induction n using Nat.strongRecOn with
    | _ n ih =>
      intro i hi hn a w ha hs
      obtain ⟨x, a1, w1, q, arr⟩ := round i hi a w ha hs b (.inLoop c :: k) cs
      have out : x ≠ .normal → ∃ x a' w', WQ N Q x a' w' ∧ Arrives P (lone (b.at a (.code c :: .inLoop c :: k)) cs w) b k cs x a' w' := fun hx => by
        refine ⟨x, a1, w1, ?_, .pass (x := .inLoop c) rfl (fun _ _ => .inl hx) arr⟩
        cases x <;> first | exact absurd rfl hx | exact q
      by_cases hx : x = .normal
      · subst hx
        obtain ⟨σ', h1, j, hj, hlt, hsub, hsat⟩ := q
        obtain ⟨x2, a2, w2, q2, arr2⟩ := ih (μ j) (hn ▸ hlt) j hj rfl a1 w1 (h1.sub hsub) hsat
        exact ⟨x2, a2, w2, q2, .of_steps (Steps.trans arr (.one step_inLoop)) arr2⟩
      · exact out hx
  obtain ⟨x, a', w', q, arr⟩ := key _ i0 h0 rfl a w (ha.sub hσ) (hs.ent hL)
  exact ⟨x, a', w', q, .of_steps (.one step_loop) arr⟩
end
end Go.Bs
