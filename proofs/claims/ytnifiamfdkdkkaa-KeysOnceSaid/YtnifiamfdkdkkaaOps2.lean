/- Rules for calls, slices and new memory. -/
import Derived.Test.YtnifiamfdkdkkaaOps
import Derived.Laws.BytesArg
namespace Go.Bs
set_option linter.unusedVariables false
set_option linter.unusedSimpArgs false

/-! ### a function's contract -/
def CtPost (e : World) (Post : Value → List Res → Prop) : Ending → World → Prop := fun x w' => ∃ v L', x = .returned v ∧ Post v L' ∧ Sat e L' w'
/-- From whatever memory meets 'L', the call returns some 'v', and memory meets some 'L'', such that 'Post v L''. -/
def Ct (P : Program) (f : FuncId) (args : Array Value) (e : World) (L : List Res) (Post : Value → List Res → Prop) : Prop :=
  ∀ w, Sat e L w → Calls P f args w (CtPost e Post)
theorem Ct.ent {P : Program} {f : FuncId} {args : Array Value} {e : World} {L L' : List Res} {Post : Value → List Res → Prop} (h : Ct P f args e L' Post) (g : Ent L L') : Ct P f args e L Post := fun w hs => h w (hs.ent g)
theorem Ct.mono {P : Program} {f : FuncId} {args : Array Value} {e : World} {L : List Res} {Post Post' : Value → List Res → Prop} (h : Ct P f args e L Post) (g : ∀ v L', Post v L' → Post' v L') : Ct P f args e L Post' :=
  fun w hs => (h w hs).mono fun _ _ ⟨v, L', a, b, c⟩ => ⟨v, L', a, g _ _ b, c⟩
theorem Ct.weak {P : Program} {f : FuncId} {args : Array Value} {e : World} {L : List Res} {Post Post' : Value → List Res → Prop} (h : Ct P f args e L Post) (g : ∀ v L', Post v L' → ∃ L'', Ent L' L'' ∧ Post' v L'') : Ct P f args e L Post' :=
  fun w hs => (h w hs).mono fun _ _ ⟨v, L', a, b, c⟩ => let ⟨L'', d, f⟩ := g v L' b; ⟨v, L'', a, f, c.ent d⟩
theorem Ct.at {P : Program} {f : FuncId} {args : Array Value} {e : World} {L R : List Res} {A : Res} {Post : Value → List Res → Prop} (p : Pull L A R) (h : Ct P f args e (A :: R) Post) : Ct P f args e L Post := h.ent p.out
theorem Ct.at2 {P : Program} {f : FuncId} {args : Array Value} {e : World} {L R R' : List Res} {A B : Res} {Post : Value → List Res → Prop} (p : Pull L A R) (q : Pull R B R') (h : Ct P f args e (A :: B :: R') Post) : Ct P f args e L Post :=
  h.ent fun _ x => sepL_cons q.out (p.out _ x)

def retvs (σ : Env) : List ResultVar → Option (List Value)
  | [] => some []
  | .tmp t :: r => match get σ t, retvs σ r with
    | some v, some vs => some (v :: vs)
    | _, _ => none
  | .cell _ _ :: _ => none
def tup : List Value → Value
  | [v] => v
  | vs => .tuple vs.toArray
def BodyQ (rs : Array ResultVar) (R : Ending → World → Prop) : Goal := fun x σ w =>
  match x with
  | .normal | .ret => ∃ vs, retvs σ rs.toList = some vs ∧ R (.returned (tup vs)) w
  | _ => False
def resOf (tmps : Array Value) : ResultVar → Sem Value
  | .tmp t => pure (tmps.getD t undef)
  | .cell b t => do loadVar t (← asAddr (tmps.getD b undef))
theorem run_retvs {P : Program} {w : World} {N : Fr} {σ : Env} {a : Act} (h : Has N σ a) : ∀ {rs : List ResultVar} {vs : List Value}, retvs σ rs = some vs → (rs.mapM (resOf a.tmps)).run P w = .ok vs w
  | [], vs, e => by simp [retvs] at e; subst e; simp
  | .tmp t :: r, vs, e => by
    simp only [retvs] at e
    cases hg : get σ t with
    | none => rw [hg] at e; simp at e
    | some v =>
      cases hr : retvs σ r with
      | none => rw [hg, hr] at e; simp at e
      | some us =>
        rw [hg, hr] at e; simp at e; subst e
        have h1 : a.tmps.getD t undef = v := by simp [h.val t v hg]
        simp only [List.mapM_cons, Sem.run_bind, resOf, Sem.run_pure, Result.andThen_ok, h1]
        rw [run_retvs h hr]
        simp
  | .cell _ _ :: _, _, e => by simp [retvs] at e
theorem run_results {P : Program} {w : World} {N : Fr} {σ : Env} {a : Act} (h : Has N σ a) {fn : Func} {vs : List Value} (e : retvs σ fn.results.toList = some vs) : (results fn a.tmps).run P w = .ok (tup vs) w := by
  have h0 : results fn a.tmps = (fn.results.mapM (resOf a.tmps)) >>= fun vs => pure (if h : vs.size = 1 then vs[0] else .tuple vs) := by
    unfold results
    congr 1
  have h1 : (fn.results.mapM (resOf a.tmps)).run P w = .ok vs.toArray w := by
    rw [Array.mapM_eq_mapM_toList, Sem.run_map, run_retvs h e]
    rfl
  rw [h0, Sem.run_bind, h1]
  simp only [Result.andThen_ok, Sem.run_pure]
  congr 1
  match vs with
  | [] => rfl
  | [v] => rfl
  | _ :: _ :: _ => simp [tup]
theorem Ct.mk {P : Program} {f : FuncId} {fn : Func} {c : Code} {N : Nat} {rs : Array ResultVar} {args : Array Value} {σ : Env} {e : World} {L : List Res} {Post : Value → List Res → Prop}
    (hf : P.funcs[f]? = some fn) (hb : fn.body = some c) (hN : fn.ntmps = N) (hr : fn.results = rs) (hle : args.size ≤ N) (hσ : ∀ k v, get σ k = some v → args[k]? = some v)
    (h : W P ⟨N, []⟩ c (BodyQ rs (CtPost e Post)) σ e L) : Ct P f args e L Post := by
  subst hN hr
  intro w hs
  refine calls_of_wp hf hb (Code.wp_mono ?_ (h { tmps := args ++ Array.replicate (fn.ntmps - args.size) undef, defers := [] } w ⟨by simp; omega, rfl, fun k v hk => ?_⟩ hs))
  · intro x a w q
    cases x with
    | normal => obtain ⟨σ', h1, vs, h2, h3⟩ := q; exact ⟨h1.defers, _, run_results h1 h2, h3⟩
    | ret => obtain ⟨σ', h1, vs, h2, h3⟩ := q; exact ⟨h1.defers, _, run_results h1 h2, h3⟩
    | panic _ => exact q.elim
    | outgrown => exact q.elim
    | exit _ => obtain ⟨_, _, h2⟩ := q; exact h2.elim
    | goto _ => obtain ⟨_, _, h2⟩ := q; exact h2.elim
  · have := hσ k v hk
    have hlt : k < args.size := (Array.getElem?_eq_some_iff.1 this).1
    rw [Array.getElem?_append_left hlt]
    exact this
def argsEnv : Nat → List Value → Env
  | _, [] => []
  | k, v :: r => (k, v) :: argsEnv (k + 1) r
theorem get_argsEnv : ∀ (l : List Value) (i k : Nat) (v : Value), get (argsEnv i l) k = some v → i ≤ k ∧ l[k - i]? = some v
  | [], _, _, _, h => by simp [argsEnv, get] at h
  | u :: r, i, k, v, h => by
    simp only [argsEnv, get_cons] at h
    by_cases e : i = k
    · subst e; simp at h; subst h; exact ⟨Nat.le_refl _, by simp⟩
    · rw [if_neg e] at h
      obtain ⟨h1, h2⟩ := get_argsEnv r (i + 1) k v h
      refine ⟨by omega, ?_⟩
      have : k - i = (k - (i + 1)) + 1 := by omega
      rw [this]; simpa using h2
/-- Into a function: its arguments lie in the first slots. -/
theorem Ct.enter {P : Program} {f : FuncId} {fn : Func} {c : Code} {N : Nat} {rs : Array ResultVar} {args : List Value} {e : World} {L : List Res} {Post : Value → List Res → Prop}
    (hf : P.funcs[f]? = some fn) (hb : fn.body = some c) (hN : fn.ntmps = N) (hr : fn.results = rs) (hle : Nat.ble args.length N = true)
    (h : W P ⟨N, []⟩ c (BodyQ rs (CtPost e Post)) (argsEnv 0 args) e L) : Ct P f args.toArray e L Post :=
  Ct.mk hf hb hN hr (by simpa using (Nat.le_of_ble_eq_true hle)) (fun k v hk => by simpa using (get_argsEnv args 0 k v hk).2) h

section
variable {P : Program} {N : Fr} {Q : Goal} {σ : Env} {e : World} {L : List Res}
/-- The end of a function. -/
theorem Fin.ret {rs : Array ResultVar} {Post : Value → List Res → Prop} {vs : List Value} (L' : List Res) (hv : retvs σ rs.toList = some vs) (hL : Ent L L') (hp : Post (tup vs) L') : Fin (BodyQ rs (CtPost e Post)) .ret σ e L :=
  fun _ hs => ⟨vs, hv, tup vs, L', rfl, hp, hs.ent hL⟩
theorem Fin.stop {rs : Array ResultVar} {Post : Value → List Res → Prop} {vs : List Value} (L' : List Res) (hv : retvs σ rs.toList = some vs) (hL : Ent L L') (hp : Post (tup vs) L') : Fin (BodyQ rs (CtPost e Post)) .normal σ e L :=
  fun _ hs => ⟨vs, hv, tup vs, L', rfl, hp, hs.ent hL⟩
theorem Fin.next {y : Code} {Q1 : Goal} (h : W P N y Q1 σ e L) : Fin (thenQ (Next P N y Q1) Q) .normal σ e L := fun w hs a ha => h a w ha hs
theorem Fin.then_ret {K : Env → World → Prop} (h : Fin Q .ret σ e L) : Fin (thenQ K Q) .ret σ e L := h
theorem Fin.then_exit {K : Env → World → Prop} {i : Nat} (h : Fin Q (.exit i) σ e L) : Fin (thenQ K Q) (.exit i) σ e L := h
theorem Fin.block_normal {id : Nat} (h : Fin Q .normal σ e L) : Fin (blockQ id Q) .normal σ e L := h
theorem Fin.block_ret {id : Nat} (h : Fin Q .ret σ e L) : Fin (blockQ id Q) .ret σ e L := h
theorem Fin.block_hit {id : Nat} (h : Fin Q .normal σ e L) : Fin (blockQ id Q) (.exit id) σ e L := fun w hs => by simp only [blockQ, if_true]; exact h w hs
theorem Fin.block_miss {id i : Nat} (hi : Nat.beq i id = false) (h : Fin Q (.exit i) σ e L) : Fin (blockQ id Q) (.exit i) σ e L := fun w hs => by
  simp only [blockQ, if_neg (Nat.ne_of_beq_eq_false hi)]; exact h w hs
/-- The end of a loop's round. -/
theorem Fin.round {ι : Type} {Iσ : ι → Env} {IL : ι → List Res} {IP : ι → Prop} {μ : ι → Nat} {m : Nat} (j : ι) (hj : IP j) (hm : μ j < m) (hσ : ∀ k v, get (Iσ j) k = some v → get σ k = some v) (hL : Ent L (IL j)) :
    Fin (thenQ (RoundQ Iσ IL IP μ m e) Q) .normal σ e L :=
  fun _ hs => ⟨j, hj, hm, hσ, hs.ent hL⟩
/-- Slots among others. -/
theorem sub_nil {σ : Env} : ∀ k v, get [] k = some v → get σ k = some v := fun _ _ h => by cases h
theorem sub_cons {σ r : Env} {j : Nat} {u : Value} (h : get σ j = some u) (f : ∀ k v, get r k = some v → get σ k = some v) : ∀ k v, get ((j, u) :: r) k = some v → get σ k = some v := fun k v hk => by
  rw [get_cons] at hk
  by_cases e : j = k
  · subst e; simp at hk; subst hk; exact h
  · rw [if_neg e] at hk; exact f k v hk

/-! ### calls -/
theorem Do.call {f g : FuncId} {xs : List Operand} {vs : List Value} {ats : Array TypeId} {d : Nat} {ty : TypeId} {pos : String} {af : Array Edge} {gd : Option (Nat × Bool)} {K : Env → List Res → Prop} {Post : Value → List Res → Prop}
    [i : CallT P f g] (hx : evs σ xs = some vs) (hd : Nat.blt d N.n = true) (h : Ct P g vs.toArray e L Post) (k : ∀ v L', Post v L' → K ((d, v) :: σ) L') :
    Do P N ⟨some d, .call { callee := .value (.func f), args := xs.toArray, argTypes := ats }, ty, pos, af, gd⟩ K σ e L := by
  intro a w ha hs K' Q' hK
  unfold Oper.wp
  have h1 : execOp a.eval ⟨some d, .call { callee := .value (.func f), args := xs.toArray, argTypes := ats }, ty, pos, af, gd⟩ = callFunc f (#[] ++ xs.toArray.map a.eval ++ #[]) := rfl
  have h2 : (#[] ++ xs.toArray.map a.eval ++ #[] : Array Value) = vs.toArray := by simp [ha.evs hx]
  rw [h1, h2, i.run, Oper.upon_enter]
  refine (h w hs).mono ?_
  rintro x w' ⟨v, L', rfl, hp, hs'⟩
  exact hK _ _ _ _ (k v L' hp) (ha.put hd v) hs'

/-! ### slices -/
/-- A slice's elements: 'k' of them, of 'n' cells each. -/
def View (n : Nat) (v : Value) (k : Nat) (xs : List Value) : Res := fun h =>
  xs.length = k * n ∧ ∃ ad cap, v = .slice ad k cap ∧ k ≤ cap ∧ cap ≤ maxLen ∧ (ad = none → cap = 0) ∧ ∀ j u, xs[j]? = some u → ∃ g o, ad = some ⟨g, o, none⟩ ∧ h.cell ⟨g, o + j, none⟩ = some u
theorem View.le {n k : Nat} {v : Value} {xs : List Value} {h h' : Heap} (x : View n v k xs h) (l : Heap.le h h') : View n v k xs h' := by
  obtain ⟨h1, ad, cap, h2, h3, h4, h5, h6⟩ := x
  exact ⟨h1, ad, cap, h2, h3, h4, h5, fun j u hj => by obtain ⟨g, o, a, b⟩ := h6 j u hj; exact ⟨g, o, a, Heap.cell_le l b⟩⟩
/-- Whatever 'L' holds of has a slice that reads so. -/
def RdSl (L : List Res) (n : Nat) (v : Value) (k : Nat) (xs : List Value) : Prop := ∀ h, sepL L h → View n v k xs h
theorem RdSl.ent {L L' : List Res} {n k : Nat} {v : Value} {xs : List Value} (h : RdSl L' n v k xs) (f : Ent L L') : RdSl L n v k xs := fun i x => h i (f i x)
theorem RdSl.tail {A : Res} {n k : Nat} {v : Value} {xs : List Value} (h : RdSl L n v k xs) : RdSl (A :: L) n v k xs := h.ent (Ent.drop Ent.rfl)
theorem RdSl.nil (L : List Res) (n : Nat) : RdSl L n (.slice none 0 0) 0 [] := fun _ _ => ⟨by simp, none, 0, rfl, Nat.le_refl _, by simp [maxLen], fun _ => rfl, fun j u h => by simp at h⟩
theorem RdSl.view {L R : List Res} {n k : Nat} {v : Value} {xs : List Value} (p : Pull L (View n v k xs) R) : RdSl L n v k xs := fun h x => by
  obtain ⟨h1, _, _, b, _, hA, _⟩ := p.out h x
  exact View.le hA b
theorem RdSl.elem {n k k' c g o j : Nat} {u : Value} {xs : List Value} (r : RdSl L n (.slice (some ⟨g, o, none⟩) k' c) k xs) (hj : xs[j]? = some u) : Rd L ⟨g, o + j, none⟩ u := fun h x => by
  obtain ⟨_, ad, cap, hv, _, _, _, h6⟩ := r h x
  cases hv
  obtain ⟨g', o', a, b⟩ := h6 j u hj
  cases a; exact b
/-- A slice that is the whole owner of its memory. -/
def Own (E : TypeId) (n : Nat) (v : Value) (k : Nat) (xs : List Value) : Res := fun h => xs.length = k * n ∧
  ((v = .slice none 0 0 ∧ k = 0) ∨ ∃ g cap cur, v = .slice (some ⟨g, 0, none⟩) k cap ∧ h g = some (.cells (List.toArray cur) E (0, 0)) ∧ k ≤ cap ∧ cap ≤ maxLen ∧ cur.length = cap * n ∧ cur.take (k * n) = xs)
theorem own_nil (E : TypeId) (n : Nat) : Ent L (Own E n (.slice none 0 0) 0 [] :: L) := fun h x =>
  ⟨fun _ => none, h, fun _ _ e => by simp at e, fun _ _ e => by simp at e, Heap.le_refl _, ⟨by simp, .inl ⟨rfl, rfl⟩⟩, x⟩
/-- An owner's memory laid open. -/
theorem own_out {E : TypeId} {n k : Nat} {v : Value} {xs : List Value} {R : List Res} {h : Heap} (x : sepL (Own E n v k xs :: R) h) :
    xs.length = k * n ∧ ((v = .slice none 0 0 ∧ k = 0 ∧ sepL R h) ∨ ∃ g cap cur, v = .slice (some ⟨g, 0, none⟩) k cap ∧ k ≤ cap ∧ cap ≤ maxLen ∧ cur.length = cap * n ∧ cur.take (k * n) = xs ∧ sepL (Blk g cur E (0, 0) :: R) h) := by
  obtain ⟨h1, h2, a, b, c, ⟨hl, hA⟩, hR⟩ := x
  refine ⟨hl, ?_⟩
  rcases hA with ⟨hv, hk⟩ | ⟨g, cap, cur, hv, hg, r1, r2, r3, r4⟩
  · exact .inl ⟨hv, hk, sepL_mono c hR⟩
  · exact .inr ⟨g, cap, cur, hv, r1, r2, r3, r4, h1, h2, a, b, c, hg, hR⟩
theorem own_in {E : TypeId} {n k g cap : Nat} {cur : List Value} {R : List Res} (r1 : k ≤ cap) (r2 : cap ≤ maxLen) (r3 : cur.length = cap * n) :
    Ent (Blk g cur E (0, 0) :: R) (Own E n (.slice (some ⟨g, 0, none⟩) k cap) k (cur.take (k * n)) :: R) := fun _ => sepL_head fun _ hg =>
  ⟨by simp only [List.length_take, r3]; exact Nat.min_eq_left (Nat.mul_le_mul_right _ r1), .inr ⟨g, cap, cur, rfl, hg, r1, r2, r3, rfl⟩⟩
theorem RdSl.own {L R : List Res} {E : TypeId} {n k : Nat} {v : Value} {xs : List Value} (p : Pull L (Own E n v k xs) R) : RdSl L n v k xs := fun h x => by
  obtain ⟨hl, hA⟩ := own_out (p.out h x)
  rcases hA with ⟨hv, hk, _⟩ | ⟨g, cap, cur, hv, r1, r2, r3, r4, y⟩
  · subst hv hk
    have : xs = [] := List.eq_nil_of_length_eq_zero (by simpa using hl)
    subst this
    exact RdSl.nil L n h x
  · subst hv
    refine ⟨hl, some ⟨g, 0, none⟩, cap, rfl, r1, r2, (fun e => by cases e), fun j u hj => ⟨g, 0, rfl, ?_⟩⟩
    obtain ⟨h1, h2, a, b, c, hg, _⟩ := y
    refine Heap.cell_le b ?_
    unfold Heap.cell
    rw [show h1 g = _ from hg]
    rw [← r4, List.getElem?_take] at hj
    split at hj
    · simpa using hj
    · cases hj
theorem own_view {E : TypeId} {n k : Nat} {v : Value} {xs : List Value} {R : List Res} : Ent (Own E n v k xs :: R) (View n v k xs :: R) := fun _ => sepL_head fun h hA => by
  have x : sepL [Own E n v k xs] h := ⟨h, fun _ => none, fun _ _ _ => rfl, Heap.le_refl _, fun _ _ e => by simp at e, hA, trivial⟩
  exact RdSl.own (R := []) .zero h x
end
end Go.Bs
