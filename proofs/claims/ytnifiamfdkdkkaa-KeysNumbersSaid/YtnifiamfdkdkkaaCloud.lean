/- Statements whose order is open, of parts that do not touch each other: each part is told by itself. -/
import Derived.Test.YtnifiamfdkdkkaaDraw
import Derived.Test.YtnifiamfdkdkkaaOps7
namespace Go.Bs
set_option linter.unusedVariables false
set_option linter.unusedSimpArgs false
theorem ent_perm {L L' : List Res} (h : L.Perm L') : Ent L L' := by
  induction h with
  | nil => exact Ent.rfl
  | cons _ _ ih => exact Ent.cons ih
  | swap _ _ _ => exact fun _ x => sepL_swap x
  | trans _ _ a b => exact Ent.trans a b
/-- What a part has brought about: slots, memory. -/
abbrev Pr := Env → List Res → Prop
def nilP : Pr := fun σ L => σ = [] ∧ L = []
/-- A part: the slots that it writes; its operations, one behind the other, with what is so behind each. -/
structure Chain where
  ds : List Nat
  steps : List (Nat × Pr)
def Chain.is (C : Chain) : List Nat := C.steps.map (·.1)
def Chain.St (C : Chain) : Nat → Pr
  | 0 => nilP
  | k + 1 => match C.steps[k]? with
    | some s => s.2
    | none => nilP
def Keys (S : Pr) (ds : List Nat) : Prop := ∀ σ L, S σ L → ∀ x ∈ σ, x.1 ∈ ds
section
variable (P : Program) (N : Fr) (ops : Array Oper) (e : World) (σ0 : Env) (L0 : List Res)
def StepOk (i : Nat) (S S' : Pr) : Prop := ∀ σ L, S σ L → ∃ o, ops[i]? = some o ∧ o.guard = none ∧ ∀ σr R, (∀ k v, get σ0 k = some v → get σr k = some v) → Ent R L0 → Do P N o (fun σ' L' => ∃ σ1 L1, S' σ1 L1 ∧ σ' = σ1 ++ σr ∧ L' = L1 ++ R) (σ ++ σr) e (L ++ R)
def Chain.Ok (C : Chain) : Prop := (∀ k i, C.is[k]? = some i → StepOk P N ops e σ0 L0 i (C.St k) (C.St (k + 1))) ∧ ∀ k, Keys (C.St k) C.ds
end
theorem keys_nil (ds : List Nat) : Keys nilP ds := fun σ L h x hx => by
  rw [h.1] at hx; cases hx
theorem Chain.keys_of {C : Chain} (h : ∀ s ∈ C.steps, Keys s.2 C.ds) : ∀ k, Keys (C.St k) C.ds
  | 0 => keys_nil _
  | k + 1 => by
    show Keys (match C.steps[k]? with | some s => s.2 | none => nilP) C.ds
    cases hk : C.steps[k]? with
    | none => exact keys_nil _
    | some s => exact h s (List.mem_of_getElem? hk)
section
variable {P : Program} {N : Fr} {ops : Array Oper} {e : World} {σ0 : Env} {L0 : List Res}
theorem Chain.ok1 {i : Nat} {ds : List Nat} {S : Pr} (h : StepOk P N ops e σ0 L0 i nilP S) (hk : Keys S ds) : Chain.Ok P N ops e σ0 L0 ⟨ds, [(i, S)]⟩ := by
  refine ⟨fun k j hj => ?_, Chain.keys_of (fun s hs => ?_)⟩
  · match k, hj with
    | 0, hj => cases hj; exact h
  · rw [List.mem_singleton.1 hs]; exact hk
theorem Chain.ok2 {i i2 : Nat} {ds : List Nat} {S S2 : Pr} (h : StepOk P N ops e σ0 L0 i nilP S) (hk : Keys S ds) (h2 : StepOk P N ops e σ0 L0 i2 S S2) (hk2 : Keys S2 ds) : Chain.Ok P N ops e σ0 L0 ⟨ds, [(i, S), (i2, S2)]⟩ := by
  refine ⟨fun k j hj => ?_, Chain.keys_of (fun s hs => ?_)⟩
  · match k, hj with
    | 0, hj => cases hj; exact h
    | 1, hj => cases hj; exact h2
  · simp only [List.mem_cons, List.not_mem_nil, or_false] at hs
    rcases hs with rfl | rfl
    · exact hk
    · exact hk2
theorem Chain.ok3 {i i2 i3 : Nat} {ds : List Nat} {S S2 S3 : Pr} (h : StepOk P N ops e σ0 L0 i nilP S) (hk : Keys S ds) (h2 : StepOk P N ops e σ0 L0 i2 S S2) (hk2 : Keys S2 ds) (h3 : StepOk P N ops e σ0 L0 i3 S2 S3) (hk3 : Keys S3 ds) : Chain.Ok P N ops e σ0 L0 ⟨ds, [(i, S), (i2, S2), (i3, S3)]⟩ := by
  refine ⟨fun k j hj => ?_, Chain.keys_of (fun s hs => ?_)⟩
  · match k, hj with
    | 0, hj => cases hj; exact h
    | 1, hj => cases hj; exact h2
    | 2, hj => cases hj; exact h3
  · simp only [List.mem_cons, List.not_mem_nil, or_false] at hs
    rcases hs with rfl | rfl | rfl
    · exact hk
    · exact hk2
    · exact hk3
/-- What most parts have brought about: for some places. -/
def At {α : Type} (f : α → Env) (M : α → List Res) : Pr := fun σ L => ∃ g, σ = f g ∧ L = M g
theorem keys_at {α : Type} {f : α → Env} {M : α → List Res} {ds : List Nat} (h : ∀ g, (f g).all (fun x => ds.contains x.1) = true) : Keys (At f M) ds := fun σ L ⟨g, h1, _⟩ x hx => by
  subst h1
  have := List.all_eq_true.1 (h g) x hx
  simpa using this
theorem step_at0 {α : Type} {i : Nat} {f : α → Env} {M : α → List Res} (h : ∃ o, ops[i]? = some o ∧ o.guard = none ∧ ∀ σr R, (∀ k v, get σ0 k = some v → get σr k = some v) → Ent R L0 → Do P N o (fun σ' L' => ∃ g, σ' = f g ++ σr ∧ L' = M g ++ R) σr e R) : StepOk P N ops e σ0 L0 i nilP (At f M) := by
  rintro _ _ ⟨rfl, rfl⟩
  obtain ⟨o, h1, h2, h3⟩ := h
  refine ⟨o, h1, h2, fun σr R h4 h5 a w ha hs K' Q' hK => h3 σr R h4 h5 a w ha hs K' Q' fun σ' L' a' w' ⟨g, e1, e2⟩ => hK σ' L' a' w' ⟨f g, M g, ⟨g, rfl, rfl⟩, e1, e2⟩⟩
theorem step_at {α β : Type} {i : Nat} {f : α → Env} {f' : β → Env} {M : α → List Res} {M' : β → List Res} (h : ∃ o, ops[i]? = some o ∧ o.guard = none ∧ ∀ g σr R, (∀ k v, get σ0 k = some v → get σr k = some v) → Ent R L0 → Do P N o (fun σ' L' => ∃ g', σ' = f' g' ++ σr ∧ L' = M' g' ++ R) (f g ++ σr) e (M g ++ R)) : StepOk P N ops e σ0 L0 i (At f M) (At f' M') := by
  rintro _ _ ⟨g, rfl, rfl⟩
  obtain ⟨o, h1, h2, h3⟩ := h
  refine ⟨o, h1, h2, fun σr R h4 h5 a w ha hs K' Q' hK => h3 g σr R h4 h5 a w ha hs K' Q' fun σ' L' a' w' ⟨g', e1, e2⟩ => hK σ' L' a' w' ⟨f' g', M' g', ⟨g', rfl, rfl⟩, e1, e2⟩⟩
theorem Do.ent1 {o : Oper} {K : Env → List Res → Prop} {σ : Env} {L L' : List Res} (f : Ent L L') (h : Do P N o K σ e L') : Do P N o K σ e L := fun a w ha hs => h a w ha (hs.ent f)
theorem evp_one {σ : Env} {x : Operand} {i : Nat} {v : Value} (h : ev σ x = some v) : evp σ [(i, x)] = some [(i, v)] := by simp [evp, h]
/-- A list in new memory: 'append([]T{}, l..)'. -/
def cloneC (d0 d2 i0 i2 el n m : Nat) (ys : List Value) : Chain := ⟨[d0, d2], [(i0, At (fun g : Nat => [(d0, .slice (some ⟨g, 0, none⟩) 0 0)]) (fun g => [Blk g [] el (0, 0)])),
  (i2, At (fun g : Nat × Option Addr × Nat => [(d2, .slice g.2.1 m g.2.2), (d0, .slice (some ⟨g.1, 0, none⟩) 0 0)]) (fun g => [Own el n (.slice g.2.1 m g.2.2) m ys]))]⟩
theorem clone_ok {d0 d2 i0 i2 t el n b m t1 ty ty' : Nat} {z u : Value} {ys : List Value} {pos pos' : String} {af af' : Array Edge} [s : SlT P t el n] [j : ElT P el z n b]
    (h0 : ops[i0]? = some ⟨some d0, .buildSlice t 0 #[], ty, pos, af, none⟩) (h2 : ops[i2]? = some ⟨some d2, .call { callee := .builtin .append, args := #[.tmp d0, .tmp t1], argTypes := #[t, t] }, ty', pos', af', none⟩)
    (hd0 : Nat.blt d0 N.n = true) (hd2 : Nat.blt d2 N.n = true) (hne : Nat.beq d0 t1 = false) (hu : get σ0 t1 = some u) (hr : RdSl L0 n u m ys) (hn : Nat.blt 0 n = true) (hz : z.cells.size = n) (h1 : ∀ c ∈ ys, c.oneCell' = true) (h63 : m ≤ maxLen) (hb : m * b ≤ 140737488355328) :
    Chain.Ok P N ops e σ0 L0 (cloneC d0 d2 i0 i2 el n m ys) := by
  refine Chain.ok2 (step_at0 ⟨_, h0, rfl, fun σr R h3 h4 => Do.buildSlice (parts := []) (vs := []) (cs := []) rfl hd0 (by simp) rfl .nil hz (fun g => ⟨g, rfl, rfl⟩)⟩) (keys_at fun g => by simp)
    (step_at ⟨_, h2, rfl, fun g σr R h3 h4 => Do.ent1 (own_in (n := n) (k := 0) (cap := 0) (by omega) (by simp [maxLen]) (by simp)) (Do.append (x := .tmp d0) (y := .tmp t1) (v := .slice (some ⟨g, 0, none⟩) 0 0) (u := u) (k := 0) ?_ ?_ hd2 .zero (hr.ent h4) hn hz h1 (by omega) (by rw [Nat.zero_add]; exact hb) fun ad c _ => ?_)⟩) (keys_at fun g => by simp)
  · show get ((d0, _) :: σr) d0 = _
    rw [get_cons, if_pos rfl]
  · show get ((d0, _) :: σr) t1 = _
    rw [get_cons, if_neg (Nat.ne_of_beq_eq_false hne)]
    exact h3 _ _ hu
  · refine ⟨(g, ad, c), ?_, ?_⟩
    · rw [Nat.zero_add]; rfl
    · simp only [Nat.zero_add, Nat.zero_mul, List.take_zero, List.nil_append]; rfl
/-- A list of one, its value at hand. -/
def oneC (d i el : Nat) (cs : List Value) : Chain := ⟨[d], [(i, At (fun g : Nat => [(d, .slice (some ⟨g, 0, none⟩) 1 1)]) (fun g => [Blk g cs el (0, 0)]))]⟩
theorem one_ok {d i t el n b t1 ty : Nat} {z v : Value} {cs : List Value} {pos : String} {af : Array Edge} [s : SlT P t el n] [j : ElT P el z n b]
    (h0 : ops[i]? = some ⟨some d, .buildSlice t 1 #[(0, .tmp t1)], ty, pos, af, none⟩) (hd : Nat.blt d N.n = true) (hu : get σ0 t1 = some v) (hn : Nat.ble (1 * n) 16777216 = true) (hz : z.cells.size = n) (hc : Parts n 0 [(0, v)] cs) :
    Chain.Ok P N ops e σ0 L0 (oneC d i el cs) :=
  Chain.ok1 (step_at0 ⟨_, h0, rfl, fun σr R h3 h4 => Do.buildSlice (parts := [(0, .tmp t1)]) (evp_one (h3 _ _ hu)) hd hn rfl hc hz (fun g => ⟨g, rfl, rfl⟩)⟩) (keys_at fun g => by simp)

def Held1 (σ : Env) (a : Act) : Prop := ∀ k v, get σ k = some v → a.tmps[k]? = some v
theorem held_append {σ τ : Env} {a : Act} (h : Held1 σ a) (h' : Held1 τ a) : Held1 (σ ++ τ) a := by
  induction σ with
  | nil => exact h'
  | cons x r ih =>
    intro k v hk
    obtain ⟨j, u⟩ := x
    rw [List.cons_append, get_cons] at hk
    by_cases hj : j = k
    · rw [if_pos hj] at hk
      exact h k v (by rw [get_cons, if_pos hj]; exact hk)
    · rw [if_neg hj] at hk
      -- a slot of the rest that stands ahead, too
      cases hr : get r k with
      | some u' =>
        have e1 : get (r ++ τ) k = some u' := by
          clear ih h hk hj
          induction r with
          | nil => cases hr
          | cons y r ih2 =>
            obtain ⟨i, w⟩ := y
            rw [List.cons_append, get_cons]
            rw [get_cons] at hr
            split
            · rename_i hi; rw [if_pos hi] at hr; exact hr
            · rename_i hi; rw [if_neg hi] at hr; exact ih2 hr
        rw [e1] at hk; cases hk
        exact h k _ (by rw [get_cons, if_neg hj]; exact hr)
      | none =>
        have e1 : get (r ++ τ) k = get τ k := by
          clear ih h hk hj
          induction r with
          | nil => rfl
          | cons y r ih2 =>
            obtain ⟨i, w⟩ := y
            rw [List.cons_append, get_cons]
            rw [get_cons] at hr
            split
            · rename_i hi; rw [if_pos hi] at hr; cases hr
            · rename_i hi; rw [if_neg hi] at hr; exact ih2 hr
        rw [e1] at hk
        exact h' k v hk
theorem get_mem {σ : Env} {k : Nat} {v : Value} (h : get σ k = some v) : (k, v) ∈ σ := by
  induction σ with
  | nil => cases h
  | cons x r ih =>
    obtain ⟨j, u⟩ := x
    rw [get_cons] at h
    by_cases hj : j = k
    · subst hj; simp at h; subst h; exact List.mem_cons_self ..
    · rw [if_neg hj] at h; exact List.mem_cons_of_mem _ (ih h)
theorem get_none {σ : Env} {k : Nat} (h : ∀ x ∈ σ, x.1 ≠ k) : get σ k = none := by
  cases hg : get σ k with
  | none => rfl
  | some v => exact absurd rfl (h _ (get_mem hg))
theorem get_app_right {σ τ : Env} {k : Nat} (h : ∀ x ∈ σ, x.1 ≠ k) : get (σ ++ τ) k = get τ k := by
  induction σ with
  | nil => rfl
  | cons x r ih =>
    obtain ⟨j, u⟩ := x
    rw [List.cons_append, get_cons, if_neg (h _ (List.mem_cons_self ..))]
    exact ih fun y hy => h y (List.mem_cons_of_mem _ hy)
/-- All slots but some. -/
def others (a : Act) (ds : List Nat) : Env := (List.range a.tmps.size).filterMap fun k => if ds.contains k then none else (a.tmps[k]?).map fun v => (k, v)
theorem others_mem {a : Act} {ds : List Nat} {x : Nat × Value} (h : x ∈ others a ds) : a.tmps[x.1]? = some x.2 := by
  unfold others at h
  rw [List.mem_filterMap] at h
  obtain ⟨k, _, h⟩ := h
  split at h
  · cases h
  · rw [Option.map_eq_some_iff] at h
    obtain ⟨v, h1, rfl⟩ := h
    exact h1
theorem others_held {a : Act} {ds : List Nat} : Held1 (others a ds) a := fun k v hk => others_mem (get_mem hk)
theorem others_get {a : Act} {ds : List Nat} {k : Nat} {v : Value} (hk : k ∉ ds) (hv : a.tmps[k]? = some v) : get (others a ds) k = some v := by
  have hm : (k, v) ∈ others a ds := by
    unfold others
    rw [List.mem_filterMap]
    refine ⟨k, List.mem_range.2 (Array.getElem?_eq_some_iff.1 hv).1, ?_⟩
    rw [if_neg (by simpa using hk), hv]
    rfl
  cases hg : get (others a ds) k with
  | some u =>
    have := others_mem (get_mem hg)
    dsimp only at this
    rw [hv] at this; exact this.symm
  | none =>
    exfalso
    clear hv
    generalize others a ds = τ at *
    induction τ with
    | nil => cases hm
    | cons y r ih =>
      obtain ⟨i, u⟩ := y
      rw [get_cons] at hg
      by_cases hi : i = k
      · rw [if_pos hi] at hg; cases hg
      · rw [if_neg hi] at hg
        rcases List.mem_cons.1 hm with h | h
        · cases h; exact hi rfl
        · exact ih h hg

/-- All parts, each as far as it is. -/
def Joint : List (Chain × Nat) → Act → List Res → Prop
  | [], _, L => L = []
  | (C, k) :: r, a, L => ∃ σ Lp L', C.St k σ Lp ∧ Held1 σ a ∧ Joint r a L' ∧ L = Lp ++ L'
def JointEnd : List Chain → Pr
  | [], σ, L => σ = [] ∧ L = []
  | C :: r, σ, L => ∃ σ1 L1 σ2 L2, C.St C.steps.length σ1 L1 ∧ JointEnd r σ2 L2 ∧ σ = σ1 ++ σ2 ∧ L = L1 ++ L2
theorem joint_append {A B : List (Chain × Nat)} {a : Act} {L : List Res} : Joint (A ++ B) a L ↔ ∃ L1 L2, Joint A a L1 ∧ Joint B a L2 ∧ L = L1 ++ L2 := by
  induction A generalizing L with
  | nil => simp [Joint]
  | cons x A ih =>
    obtain ⟨C, k⟩ := x
    simp only [List.cons_append, Joint, ih]
    constructor
    · rintro ⟨σ, Lp, _, h1, h2, ⟨L1, L2, h3, h4, rfl⟩, rfl⟩
      exact ⟨Lp ++ L1, L2, ⟨σ, Lp, L1, h1, h2, h3, rfl⟩, h4, by simp⟩
    · rintro ⟨_, L2, ⟨σ, Lp, L1, h1, h2, h3, rfl⟩, h4, rfl⟩
      exact ⟨σ, Lp, L1 ++ L2, h1, h2, ⟨L1, L2, h3, h4, rfl⟩, by simp⟩
theorem joint_keep {A : List (Chain × Nat)} {a a' : Act} {L : List Res} {ds : List Nat} (hk : ∀ x ∈ A, ∀ k, Keys (x.1.St k) x.1.ds) (hd : ∀ x ∈ A, ∀ d ∈ x.1.ds, d ∉ ds) (ht : ∀ k v, k ∉ ds → a.tmps[k]? = some v → a'.tmps[k]? = some v) (h : Joint A a L) : Joint A a' L := by
  induction A generalizing L with
  | nil => exact h
  | cons x A ih =>
    obtain ⟨C, k⟩ := x
    obtain ⟨σ, Lp, L', h1, h2, h3, rfl⟩ := h
    refine ⟨σ, Lp, L', h1, fun j v hj => ?_, ih (fun y hy => hk y (List.mem_cons_of_mem _ hy)) (fun y hy => hd y (List.mem_cons_of_mem _ hy)) h3, rfl⟩
    exact ht j v (hd _ (List.mem_cons_self ..) j (hk _ (List.mem_cons_self ..) k σ Lp h1 _ (get_mem hj))) (h2 j v hj)
theorem joint_end {cs : List (Chain × Nat)} {a : Act} {L : List Res} (hk : ∀ x ∈ cs, x.2 = x.1.steps.length) (h : Joint cs a L) : ∃ σ, JointEnd (cs.map (·.1)) σ L ∧ Held1 σ a := by
  induction cs generalizing L with
  | nil => exact ⟨[], ⟨rfl, h⟩, fun k v hk => by cases hk⟩
  | cons x cs ih =>
    obtain ⟨C, k⟩ := x
    obtain ⟨σ, Lp, L', h1, h2, h3, rfl⟩ := h
    obtain ⟨σ2, h4, h5⟩ := ih (fun y hy => hk y (List.mem_cons_of_mem _ hy)) h3
    have : k = C.steps.length := hk _ (List.mem_cons_self ..)
    subst this
    exact ⟨σ ++ σ2, ⟨σ, Lp, σ2, L', h1, h4, rfl, rfl⟩, held_append h2 h5⟩

/-! ### which come up -/
def come (cs : List (Chain × Nat)) : List Nat := cs.flatMap fun x => x.1.is.take x.2
def mark (l : Array Bool) : List Nat → Array Bool
  | [] => l
  | i :: r => mark (l.setIfInBounds i true) r
theorem mark_get : ∀ (U : List Nat) (l : Array Bool) (i : Nat), (mark l U)[i]? = (l[i]?).map (fun b => b || U.contains i)
  | [], l, i => by simp [mark]
  | j :: r, l, i => by
    rw [mark, mark_get r]
    by_cases h : j = i
    · subst h
      rcases Nat.lt_or_ge j l.size with h1 | h1
      · simp [h1]
      · rw [Array.getElem?_eq_none (by simpa using h1), Array.getElem?_eq_none h1]; rfl
    · rw [Array.getElem?_setIfInBounds_ne h]
      congr 1
      funext b
      have h' : ¬ i = j := fun h' => h h'.symm
      simp [h']
def chkChain (ops : Array Oper) (l0 : Array Bool) : List Nat → List Nat → Bool
  | _, [] => true
  | pre, i :: r => (match l0[i]? with | some b => !b | none => false) &&
    (match ops[i]? with
      | some o => o.after.all (fun ed => !Region.binds .any ed || l0.getD ed.on false || pre.contains ed.on) && (match pre with | [] => true | p :: _ => o.after.any fun ed => Region.binds .any ed && ed.on == p)
      | none => false) && chkChain ops l0 (i :: pre) r
theorem chkChain_spec {ops : Array Oper} {l0 : Array Bool} : ∀ {is pre : List Nat}, chkChain ops l0 pre is = true → ∀ j i, is[j]? = some i → l0[i]? = some false ∧ ∃ o, ops[i]? = some o ∧
    (∀ ed ∈ o.after, Region.binds .any ed = true → l0.getD ed.on false = true ∨ ed.on ∈ pre ∨ ed.on ∈ is.take j) ∧ (∀ p, (j = 0 ∧ pre.head? = some p ∨ ∃ q, j = q + 1 ∧ is[q]? = some p) → ∃ ed ∈ o.after, Region.binds .any ed = true ∧ ed.on = p)
  | [], _, _, j, i, hi => by simp at hi
  | i0 :: r, pre, h, j, i, hi => by
    simp only [chkChain, Bool.and_eq_true] at h
    obtain ⟨⟨h1, h2⟩, h3⟩ := h
    match j, hi with
    | 0, hi =>
      simp at hi; subst hi
      refine ⟨?_, ?_⟩
      · cases hl : l0[i0]? with
        | none => rw [hl] at h1; cases h1
        | some b => rw [hl] at h1; simp at h1; rw [h1]
      · cases ho : ops[i0]? with
        | none => rw [ho] at h2; cases h2
        | some o =>
          rw [ho] at h2
          simp only [Bool.and_eq_true] at h2
          refine ⟨o, rfl, fun ed hed hb => ?_, fun p hp => ?_⟩
          · have := Array.all_eq_true'.1 h2.1 ed hed
            simp only [Bool.or_eq_true, Bool.not_eq_true', hb] at this
            rcases this with (h | h) | h
            · cases h
            · exact .inl h
            · exact .inr (.inl (by simpa using h))
          · rcases hp with ⟨_, hp⟩ | ⟨q, hq, _⟩
            · cases pre with
              | nil => cases hp
              | cons p' pre' =>
                simp at hp; subst hp
                obtain ⟨ed, hed, hb⟩ := Array.any_eq_true'.1 h2.2
                simp only [Bool.and_eq_true, beq_iff_eq] at hb
                exact ⟨ed, hed, hb.1, hb.2⟩
            · cases hq
    | j + 1, hi =>
      simp at hi
      obtain ⟨g1, o, g2, g3, g4⟩ := chkChain_spec h3 j i hi
      refine ⟨g1, o, g2, fun ed hed hb => ?_, fun p hp => ?_⟩
      · rcases g3 ed hed hb with h | h | h
        · exact .inl h
        · rcases List.mem_cons.1 h with h | h
          · exact .inr (.inr (by rw [h]; simp))
          · exact .inr (.inl h)
        · exact .inr (.inr (by rw [List.take_succ_cons]; exact List.mem_cons_of_mem _ h))
      · rcases hp with ⟨hj, _⟩ | ⟨q, hq, hp⟩
        · cases hj
        · have : q = j := by omega
          subst this
          refine g4 p ?_
          cases q with
          | zero => simp at hp; exact .inl ⟨rfl, by simp [hp]⟩
          | succ q => exact .inr ⟨q, rfl, by simpa using hp⟩
def chkRest (ops : Array Oper) (l0 : Array Bool) (iss : List (List Nat)) (i : Nat) : Bool :=
  (match l0[i]? with | some b => b | none => true) || iss.flatten.contains i || (match ops[i]? with
    | some o => iss.all (fun is => o.after.any fun ed => Region.binds .any ed && is.getLast? == some ed.on) || o.after.any (fun ed => Region.binds .any ed && !iss.flatten.contains ed.on && !l0.getD ed.on false)
    | none => true)
def nodupB : List Nat → Bool
  | [] => true
  | i :: r => !r.contains i && nodupB r
theorem nodupB_spec : ∀ {l : List Nat}, nodupB l = true → l.Nodup
  | [], _ => List.nodup_nil
  | i :: r, h => by
    simp only [nodupB, Bool.and_eq_true, Bool.not_eq_true'] at h
    exact List.nodup_cons.2 ⟨by simpa using h.1, nodupB_spec h.2⟩
def cloudB (ops : Array Oper) (l0 : Array Bool) (iss : List (List Nat)) : Bool :=
  iss.all (fun is => chkChain ops l0 [] is && !is.isEmpty) && nodupB iss.flatten && (List.range ops.size).all (chkRest ops l0 iss)
def dsB (keys : List Nat) (dss : List (List Nat)) : Bool := nodupB dss.flatten && keys.all fun k => !dss.flatten.contains k
def left (cs : List (Chain × Nat)) : Nat := (cs.map fun x => x.1.steps.length - x.2).sum
theorem come_end {cs : List (Chain × Nat)} (hk : ∀ x ∈ cs, x.2 = x.1.steps.length) : come cs = (cs.map (·.1.is)).flatten := by
  induction cs with
  | nil => rfl
  | cons x cs ih =>
    have h1 := hk x (List.mem_cons_self ..)
    have h2 := ih fun y hy => hk y (List.mem_cons_of_mem _ hy)
    simp only [come, List.flatMap_cons, List.map_cons, List.flatten_cons] at h2 ⊢
    rw [h2, List.take_of_length_le (by unfold Chain.is; simp; omega)]
theorem left_zero {cs : List (Chain × Nat)} (hle : ∀ x ∈ cs, x.2 ≤ x.1.steps.length) (h : left cs = 0) : ∀ x ∈ cs, x.2 = x.1.steps.length := by
  induction cs with
  | nil => intro x hx; cases hx
  | cons y cs ih =>
    simp only [left, List.map_cons, List.sum_cons] at h ih
    intro x hx
    have hy := hle y (List.mem_cons_self ..)
    rcases List.mem_cons.1 hx with rfl | hx
    · omega
    · exact ih (fun z hz => hle z (List.mem_cons_of_mem _ hz)) (by omega) x hx
theorem left_pos {cs : List (Chain × Nat)} (hle : ∀ x ∈ cs, x.2 ≤ x.1.steps.length) (h : 0 < left cs) : ∃ x ∈ cs, x.2 < x.1.steps.length := by
  refine Classical.byContradiction fun hn => ?_
  have h0 : left cs = 0 := by
    clear h
    induction cs with
    | nil => rfl
    | cons y cs ih =>
      simp only [left, List.map_cons, List.sum_cons] at ih ⊢
      have h1 := ih (fun z hz => hle z (List.mem_cons_of_mem _ hz)) (fun ⟨x, hx, hlt⟩ => hn ⟨x, List.mem_cons_of_mem _ hx, hlt⟩)
      have h2 : ¬ y.2 < y.1.steps.length := fun hlt => hn ⟨y, List.mem_cons_self .., hlt⟩
      omega
  omega
variable {Q : Goal} {R0 : List Res} {T : List Nat} {n : Nat} {l0 : Array Bool}
theorem wpS_cloud {Cs : List Chain} {Q' : Exit → Act → World → Prop} {S : Array Bool → World → Prop} (hB : cloudB ops l0 (Cs.map Chain.is) = true) (hD : dsB (σ0.map (·.1)) (Cs.map Chain.ds) = true) (hok : ∀ C ∈ Cs, C.Ok P N ops e σ0 L0)
    (hS : ∀ l w L, Sat e (L ++ L0) w → S l w)
    (fin : ∀ a w σ1 L1, JointEnd Cs σ1 L1 → Has N (σ1 ++ σ0) a → Sat e (L1 ++ L0) w → wpS P ops Q' S n (mark l0 (Cs.map Chain.is).flatten) a w) :
    ∀ (m : Nat) (cs : List (Chain × Nat)), left cs = m → cs.map (·.1) = Cs → (∀ x ∈ cs, x.2 ≤ x.1.steps.length) → ∀ (l : Array Bool) (a : Act) (w : World) (L : List Res),
      (∀ i, l[i]? = (l0[i]?).map (fun b => b || (come cs).contains i)) → a.tmps.size = N.n → a.defers = N.ds → Held1 σ0 a → Joint cs a L → Sat e (L ++ L0) w → wpS P ops Q' S (n + m) l a w := by
  simp only [cloudB, Bool.and_eq_true] at hB
  obtain ⟨⟨hB1, hB2⟩, hB3⟩ := hB
  have hB1 := List.all_eq_true.1 hB1
  have hnd := nodupB_spec hB2
  simp only [dsB, Bool.and_eq_true] at hD
  obtain ⟨hD1, hD2⟩ := hD
  have hdd := nodupB_spec hD1
  have hchk : ∀ C ∈ Cs, chkChain ops l0 [] C.is = true ∧ C.is ≠ [] := fun C hC => by
    have := hB1 _ (List.mem_map.2 ⟨C, hC, rfl⟩)
    simp only [Bool.and_eq_true, Bool.not_eq_true', List.isEmpty_eq_false_iff] at this
    exact this
  intro m
  induction m with
  | zero =>
    intro cs hm hcs hle l a w L hl hsz hdf h0 hj hs
    have hend := left_zero hle hm
    have hll : l = mark l0 (Cs.map Chain.is).flatten := by
      apply Array.ext_getElem?
      intro i
      rw [hl, mark_get, come_end hend, ← hcs, List.map_map]
      rfl
    subst hll
    obtain ⟨σ1, h1, h2⟩ := joint_end hend hj
    rw [hcs] at h1
    exact fin a w σ1 L h1 ⟨hsz, hdf, held_append h2 h0⟩ hs
  | succ m ih =>
    intro cs hm hcs hle l a w L hl hsz hdf h0 hj hs
    have hlget : ∀ i, l.getD i true = (match l0[i]? with | some b => b || (come cs).contains i | none => true) := fun i => by
      rw [Array.getD_eq_getD_getElem?, hl]; cases l0[i]? <;> rfl
    have hlgetF : ∀ i, l.getD i false = (match l0[i]? with | some b => b || (come cs).contains i | none => false) := fun i => by
      rw [Array.getD_eq_getD_getElem?, hl]; cases l0[i]? <;> rfl
    -- what has come up of a part
    have hpart : ∀ (A : List (Chain × Nat)) (C : Chain) (k : Nat) (B : List (Chain × Nat)) (p i : Nat), cs = A ++ (C, k) :: B → C.is[p]? = some i → ((come cs).contains i = true ↔ p < k) := by
      intro A C k B p i hsp hp
      have hmem : i ∈ C.is := List.mem_of_getElem? hp
      have hU : (Cs.map Chain.is).flatten = (A.map (·.1.is)).flatten ++ (C.is ++ (B.map (·.1.is)).flatten) := by
        rw [← hcs, hsp]; simp [Function.comp_def]
      rw [hU] at hnd
      have hn1 := List.nodup_append.1 hnd
      have hn2 := List.nodup_append.1 hn1.2.1
      have hsub : ∀ (X : List (Chain × Nat)), i ∈ come X → i ∈ (X.map (·.1.is)).flatten := fun X hX => by
        simp only [come, List.mem_flatMap] at hX
        obtain ⟨x, hx, hi⟩ := hX
        exact List.mem_flatten.2 ⟨x.1.is, List.mem_map.2 ⟨x, hx, rfl⟩, List.mem_of_mem_take hi⟩
      rw [List.contains_iff_mem, hsp]
      simp only [come, List.flatMap_append, List.flatMap_cons, List.mem_append]
      constructor
      · rintro (h | h | h)
        · exact absurd rfl (hn1.2.2 i (hsub A h) i (List.mem_append_left _ hmem))
        · obtain ⟨q, hq⟩ := List.getElem?_of_mem h
          rw [List.getElem?_take] at hq
          split at hq
          · rename_i hqk
            have h1 := (List.getElem?_eq_some_iff.1 hq)
            have h2 := (List.getElem?_eq_some_iff.1 hp)
            obtain ⟨h1a, h1b⟩ := h1
            obtain ⟨h2a, h2b⟩ := h2
            have := (List.getElem_inj hn2.1).1 (h1b.trans h2b.symm)
            omega
          · cases hq
        · exact absurd rfl (hn2.2.2 i hmem i (hsub B h))
      · intro h
        refine .inr (.inl ?_)
        refine List.mem_of_getElem? (i := p) ?_
        rw [List.getElem?_take, if_pos h]; exact hp
    have hCs : ∀ (A : List (Chain × Nat)) (C : Chain) (k : Nat) (B : List (Chain × Nat)), cs = A ++ (C, k) :: B → C ∈ Cs := fun A C k B h => by
      rw [← hcs, h]; simp
    refine ⟨fun hno => ?_, fun i hi => ?_⟩
    · exfalso
      obtain ⟨⟨C, k⟩, hx, hlt⟩ := left_pos hle (by omega)
      obtain ⟨A, B, hsp⟩ := List.append_of_mem hx
      have hlen : C.is.length = C.steps.length := by simp [Chain.is]
      have hik : C.is[k]? = some (C.is[k]'(by rw [hlen]; exact hlt)) := List.getElem?_eq_getElem _
      generalize C.is[k]'(by rw [hlen]; exact hlt) = i at hik
      have hC := hCs A C k B hsp
      obtain ⟨g1, o, g2, g3, g4⟩ := chkChain_spec (hchk C hC).1 k i hik
      have hr : i ∈ Region.ready .any ops l := by
        refine mem_ready.2 ⟨?_, o, g2, fun ed hed hb => ?_⟩
        · rw [hlget, g1]
          have := (hpart A C k B k i hsp hik)
          cases hc : (come cs).contains i with
          | false => rfl
          | true => exact absurd (this.1 hc) (Nat.lt_irrefl _)
        · rw [hlgetF]
          rcases g3 ed hed hb with h | h | h
          · rw [Array.getD_eq_getD_getElem?] at h
            cases hq : l0[ed.on]? with
            | none => rw [hq] at h; cases h
            | some b => rw [hq] at h; simp at h; subst h; rfl
          · cases h
          · obtain ⟨q, hq⟩ := List.getElem?_of_mem h
            rw [List.getElem?_take] at hq
            split at hq
            · rename_i hqk
              have h1 := (chkChain_spec (hchk C hC).1 q _ hq).1
              rw [h1, (hpart A C k B q _ hsp hq).2 hqk]; rfl
            · cases hq
      rw [hno] at hr; cases hr
    · obtain ⟨hun, o, ho, hall⟩ := mem_ready.1 hi
      have hl0 : l0[i]? = some false ∧ (come cs).contains i = false := by
        rw [hlget] at hun
        cases hq : l0[i]? with
        | none => rw [hq] at hun; cases hun
        | some b =>
          rw [hq] at hun
          simp only [Bool.or_eq_false_iff] at hun
          exact ⟨by rw [hun.1], hun.2⟩
      -- it is the next one of a part
      have hnext : ∃ A C k B, cs = A ++ (C, k) :: B ∧ C.is[k]? = some i := by
        by_cases hU : i ∈ (Cs.map Chain.is).flatten
        · obtain ⟨is, his, hii⟩ := List.mem_flatten.1 hU
          obtain ⟨C, hC, rfl⟩ := List.mem_map.1 his
          rw [← hcs] at hC
          obtain ⟨⟨C', k⟩, hx, rfl⟩ := List.mem_map.1 hC
          obtain ⟨A, B, hsp⟩ := List.append_of_mem hx
          obtain ⟨j, hj⟩ := List.getElem?_of_mem hii
          have hC' := hCs A C' k B hsp
          dsimp only at hj hii
          have h1 := hpart A C' k B j i hsp hj
          have hjk : ¬ j < k := fun h => by rw [h1.2 h] at hl0; cases hl0.2
          rcases Nat.lt_or_ge k j with hlt | hge
          · exfalso
            obtain ⟨p, rfl⟩ : ∃ p, j = p + 1 := ⟨j - 1, by omega⟩
            have hp : C'.is[p]? = some (C'.is[p]'(by have := (List.getElem?_eq_some_iff.1 hj).1; omega)) := List.getElem?_eq_getElem _
            generalize C'.is[p]'_ = ip at hp
            obtain ⟨_, o', ho', _, g4⟩ := chkChain_spec (hchk C' hC').1 (p + 1) i hj
            rw [ho] at ho'; cases ho'
            obtain ⟨ed, hed, hb, hon⟩ := g4 ip (.inr ⟨p, rfl, hp⟩)
            have h2 := hall ed hed hb
            rw [hon, hlgetF, (chkChain_spec (hchk C' hC').1 p ip hp).1] at h2
            simp only [Bool.false_or] at h2
            have := (hpart A C' k B p ip hsp hp).1 h2
            omega
          · have : j = k := by omega
            subst this
            exact ⟨A, C', j, B, hsp, hj⟩
        · exfalso
          have hlt : i < ops.size := (Array.getElem?_eq_some_iff.1 ho).1
          have h1 := List.all_eq_true.1 hB3 i (List.mem_range.2 hlt)
          unfold chkRest at h1
          rw [hl0.1, ho] at h1
          simp only [Bool.or_eq_true, Bool.false_eq_true, false_or, List.contains_iff_mem, hU, false_or] at h1
          rcases h1 with h1 | h1
          · obtain ⟨⟨C, k⟩, hx, hklt⟩ := left_pos hle (by omega)
            obtain ⟨A, B, hsp⟩ := List.append_of_mem hx
            have hC := hCs A C k B hsp
            have h2 := List.all_eq_true.1 h1 _ (List.mem_map.2 ⟨C, hC, rfl⟩)
            obtain ⟨ed, hed, hb⟩ := Array.any_eq_true'.1 h2
            simp only [Bool.and_eq_true, beq_iff_eq] at hb
            have h3 := hall ed hed hb.1
            have hlen : C.is.length = C.steps.length := by simp [Chain.is]
            rw [List.getLast?_eq_getElem?] at hb
            rw [hlgetF, (chkChain_spec (hchk C hC).1 _ _ hb.2).1] at h3
            simp only [Bool.false_or] at h3
            have := (hpart A C k B _ _ hsp hb.2).1 h3
            dsimp only at hklt
            omega
          · obtain ⟨ed, hed, hb⟩ := Array.any_eq_true'.1 h1
            simp only [Bool.and_eq_true, Bool.not_eq_true'] at hb
            have h3 := hall ed hed hb.1.1
            rw [hlgetF] at h3
            have h4 : (come cs).contains ed.on = false := by
              cases hc : (come cs).contains ed.on with
              | false => rfl
              | true =>
                exfalso
                have h5 : ed.on ∈ come cs := by simpa using hc
                simp only [come, List.mem_flatMap] at h5
                obtain ⟨x, hx, hxi⟩ := h5
                have h6 : ed.on ∈ (Cs.map Chain.is).flatten := List.mem_flatten.2 ⟨x.1.is, List.mem_map.2 ⟨x.1, by rw [← hcs]; exact List.mem_map.2 ⟨x, hx, rfl⟩, rfl⟩, List.mem_of_mem_take hxi⟩
                have h7 := hb.1.2
                rw [List.contains_iff_mem.2 h6] at h7
                cases h7
            rw [h4] at h3
            have h8 := hb.2
            rw [Array.getD_eq_getD_getElem?] at h8
            cases hq : l0[ed.on]? with
            | none => rw [hq] at h3; cases h3
            | some b => rw [hq] at h3 h8; simp at h3 h8; rw [h8] at h3; cases h3
      obtain ⟨A, C, k, B, hsp, hik⟩ := hnext
      have hC := hCs A C k B hsp
      rw [hsp] at hj
      obtain ⟨LA, _, hjA, ⟨σ, Lp, LB, hst, hheld, hjB, rfl⟩, rfl⟩ := joint_append.1 hj
      obtain ⟨o', ho', hg, hdo⟩ := (hok C hC).1 k i hik σ Lp hst
      rw [ho] at ho'; cases ho'
      have hU0 : ∀ q, q ∈ σ0.map (·.1) → q ∉ C.ds := fun q hq hm => by
        have h1 := List.all_eq_true.1 hD2 q hq
        have h2 : q ∈ (Cs.map Chain.ds).flatten := List.mem_flatten.2 ⟨C.ds, List.mem_map.2 ⟨C, hC, rfl⟩, hm⟩
        rw [List.contains_iff_mem.2 h2] at h1
        cases h1
      have app : ∀ (L : List Res), Ent (L ++ L0) L0 := fun L => by
        induction L with
        | nil => exact Ent.rfl
        | cons _ _ ih => exact Ent.drop ih
      have hdo := hdo (others a C.ds) (LA ++ LB ++ L0) (fun q v hq => others_get (hU0 q (List.mem_map.2 ⟨(q, v), get_mem hq, rfl⟩)) (h0 q v hq)) (app _)
      have hs1 : Sat e (Lp ++ (LA ++ LB ++ L0)) w := hs.ent (ent_perm (by
        simp only [List.append_assoc]
        exact List.perm_append_comm_assoc _ _ _))
      refine do_wpOp (K := fun σ' L' => ∃ σ1 L1, C.St (k + 1) σ1 L1 ∧ σ' = σ1 ++ others a C.ds ∧ L' = L1 ++ (LA ++ LB ++ L0)) ho (by simp [Region.wanted, hg]) hdo ⟨hsz, hdf, held_append hheld others_held⟩ hs1 ?_
      rintro _ _ a' w' ⟨σ1, L1, hst1, rfl, rfl⟩ ha' hs'
      have hkeys1 := (hok C hC).2 (k + 1) σ1 L1 hst1
      have hkeep : ∀ q v, q ∉ C.ds → a.tmps[q]? = some v → a'.tmps[q]? = some v := fun q v hq hv => by
        refine ha'.val q v ?_
        rw [get_app_right fun x hx => ?_]
        · exact others_get hq hv
        · rintro rfl; exact hq (hkeys1 x hx)
      have hdsp : (Cs.map Chain.ds).flatten = (A.map (·.1.ds)).flatten ++ (C.ds ++ (B.map (·.1.ds)).flatten) := by
        rw [← hcs, hsp]; simp [Function.comp_def]
      have hdd1 := hdd
      rw [hdsp] at hdd1
      have hn1 := List.nodup_append.1 hdd1
      have hn2 := List.nodup_append.1 hn1.2.1
      have hsat' : Sat e ((LA ++ (L1 ++ LB)) ++ L0) w' := hs'.ent (ent_perm (by
        simp only [List.append_assoc]
        exact List.perm_append_comm_assoc _ _ _))
      have hcs' : (A ++ (C, k + 1) :: B).map (·.1) = Cs := by rw [← hcs, hsp]; simp
      have hklt : k < C.steps.length := by
        have := (List.getElem?_eq_some_iff.1 hik).1
        simpa [Chain.is] using this
      have hleft : left (A ++ (C, k + 1) :: B) = m := by
        rw [hsp] at hm
        simp only [left, List.map_append, List.map_cons, List.sum_append, List.sum_cons] at hm ⊢
        omega
      have hcome : ∀ j, (come (A ++ (C, k + 1) :: B)).contains j = ((come cs).contains j || j == i) := fun j => by
        rw [hsp]
        have e1 : C.is.take (k + 1) = C.is.take k ++ [i] := by
          obtain ⟨hlt, heq⟩ := List.getElem?_eq_some_iff.1 hik
          rw [List.take_succ_eq_append_getElem hlt, heq]
        simp only [come, List.flatMap_append, List.flatMap_cons, e1]
        rw [Bool.eq_iff_iff]
        simp only [List.contains_iff_mem, List.mem_append, List.mem_singleton, Bool.or_eq_true, beq_iff_eq]
        constructor
        · rintro (h | (h | h) | h)
          · exact .inl (.inl h)
          · exact .inl (.inr (.inl h))
          · exact .inr h
          · exact .inl (.inr (.inr h))
        · rintro ((h | h | h) | h)
          · exact .inl h
          · exact .inr (.inl (.inl h))
          · exact .inr (.inr h)
          · exact .inr (.inl (.inr h))
      refine ⟨hS _ _ _ hsat', ih (A ++ (C, k + 1) :: B) hleft hcs' ?_ _ a' w' (LA ++ (L1 ++ LB)) ?_ ha'.size ha'.defers ?_ ?_ hsat'⟩
      · intro x hx
        rcases List.mem_append.1 hx with hx | hx
        · exact hle x (by rw [hsp]; exact List.mem_append_left _ hx)
        · rcases List.mem_cons.1 hx with rfl | hx
          · exact hklt
          · exact hle x (by rw [hsp]; exact List.mem_append_right _ (List.mem_cons_of_mem _ hx))
      · intro j
        by_cases hj : i = j
        · subst hj
          have hlt : i < l.size := by
            have := hl i
            rw [hl0.1] at this
            exact (Array.getElem?_eq_some_iff.1 this).1
          rw [Array.getElem?_setIfInBounds_self_of_lt hlt, hl0.1, hcome]
          simp
        · rw [Array.getElem?_setIfInBounds_ne hj, hl, hcome]
          have : (j == i) = false := by simp; exact fun h => hj h.symm
          simp [this]
      · intro q v hq
        have h1 := List.all_eq_true.1 hD2 q (List.mem_map.2 ⟨(q, v), get_mem hq, rfl⟩)
        refine hkeep q v (fun hm => ?_) (h0 q v hq)
        have h2 : q ∈ (Cs.map Chain.ds).flatten := by rw [hdsp]; exact List.mem_append_right _ (List.mem_append_left _ hm)
        rw [List.contains_iff_mem.2 h2] at h1
        cases h1
      · refine joint_append.2 ⟨LA, L1 ++ LB, ?_, ⟨σ1, L1, LB, hst1, ?_, ?_, rfl⟩, rfl⟩
        · refine joint_keep (ds := C.ds) (fun x hx => (hok x.1 ?_).2) (fun x hx d hd hd' => ?_) hkeep hjA
          · rw [← hcs, hsp]; exact List.mem_map.2 ⟨x, List.mem_append_left _ hx, rfl⟩
          · exact hn1.2.2 d (List.mem_flatten.2 ⟨x.1.ds, List.mem_map.2 ⟨x, hx, rfl⟩, hd⟩) d (List.mem_append_left _ hd') rfl
        · intro q v hq
          refine ha'.val q v ?_
          have : ∀ (σ τ : Env), get σ q = some v → get (σ ++ τ) q = some v := by
            intro σ τ h
            induction σ with
            | nil => cases h
            | cons x r ih =>
              obtain ⟨j, u⟩ := x
              rw [List.cons_append, get_cons]
              rw [get_cons] at h
              split
              · rename_i hj; rw [if_pos hj] at h; exact h
              · rename_i hj; rw [if_neg hj] at h; exact ih h
          exact this _ _ hq
        · refine joint_keep (ds := C.ds) (fun x hx => (hok x.1 ?_).2) (fun x hx d hd hd' => ?_) hkeep hjB
          · rw [← hcs, hsp]; exact List.mem_map.2 ⟨x, List.mem_append_right _ (List.mem_cons_of_mem _ hx), rfl⟩
          · exact hn2.2.2 d hd' d (List.mem_flatten.2 ⟨x.1.ds, List.mem_map.2 ⟨x, hx, rfl⟩, hd⟩) rfl
def nils (Cs : List Chain) : List (Chain × Nat) := Cs.map fun C => (C, 0)
theorem nils_come : ∀ Cs : List Chain, come (nils Cs) = []
  | [] => rfl
  | C :: r => by
    have := nils_come r
    simp only [come, nils, List.map_cons, List.flatMap_cons, List.take_zero, List.nil_append] at this ⊢
    exact this
theorem nils_joint {a : Act} : ∀ Cs : List Chain, Joint (nils Cs) a []
  | [] => rfl
  | C :: r => by
    refine ⟨[], [], [], ⟨rfl, rfl⟩, ?_, nils_joint r, rfl⟩
    intro k v h
    cases h
/-- Parts that do not touch: in whatever order their operations come up, each part is behind them as it tells. -/
theorem A.cloud (Cs : List Chain) (m : Nat) (hm : left (nils Cs) = m) (hB : cloudB ops l0 (Cs.map Chain.is) = true) (hD : dsB (σ0.map (·.1)) (Cs.map Chain.ds) = true) (hok : ∀ C ∈ Cs, C.Ok P N ops e σ0 L0) (hR : Ent L0 R0)
    (k : ∀ σ1 L1, JointEnd Cs σ1 L1 → A P N ops T R0 n (mark l0 (Cs.map Chain.is).flatten) Q (σ1 ++ σ0) e (L1 ++ L0)) : A P N ops T R0 (n + m) l0 Q σ0 e L0 := fun a w ha hs => by
  have app : ∀ (L : List Res), Ent (L ++ L0) L0 := fun L => by
    induction L with
    | nil => exact Ent.rfl
    | cons _ _ ih => exact Ent.drop ih
  refine wpS_cloud (σ0 := σ0) (L0 := L0) (S := Held T (Sat e R0)) hB hD hok (fun l w L h _ => h.ent ((app L).trans hR)) (fun a w σ1 L1 h1 h2 h3 => k σ1 L1 h1 a w h2 h3) m (nils Cs) hm (by simp [nils, Function.comp_def]) (fun x hx => ?_) l0 a w [] (fun i => ?_) ha.size ha.defers ha.val (nils_joint Cs) hs
  · simp only [nils, List.mem_map] at hx
    obtain ⟨C, _, rfl⟩ := hx
    exact Nat.zero_le _
  · rw [nils_come]; simp
end
end Go.Bs
