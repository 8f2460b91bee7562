/- A range over a function, in parts of memory: the statement, a round, a call of yield. -/
import Derived.Test.YtaghckfpnfkihaaArr
import Derived.RangeFuncRecord
import Derived.RangeFuncSeq
import Derived.TacticsIn
namespace Go.Bs
set_option linter.unusedVariables false
set_option linter.unusedSimpArgs false
/-- The wide fence, in a round or outside of all. -/
def Fw (ro : Option Nat) : Fence := { Fence.wide with round := ro }
theorem Fw_none : Fw none = Fence.wide := rfl
theorem Fw_some (l : Nat) : Fw (some l) = Fence.wide.inRound l := rfl
theorem callsIn_fw {ro : Option Nat} {n : Nat} {P : Program} {f : FuncId} {args : Array Value} {w : World} {R : Ending → World → Prop} (h : Calls P f args w R) : CallsIn (Fw ro) n P f args w R := by
  have h1 := (callsIn_wide (n := n)).2 h
  cases ro with
  | none => exact h1
  | some l => exact h1
theorem rowsIn_fw {ro : Option Nat} {n : Nat} {P : Program} {row : String} {args : Array Value} {w : World} {R : Value → World → Prop} (h : Rows P row args w R) : RowsIn (Fw ro) n P row args w R := fun c cs _ => by
  obtain ⟨v, w', r, s⟩ := h c cs
  exact ⟨v, w', r, by have := stepsIn_wide.2 s; cases ro <;> exact this⟩
def noDefer : Op → Bool
  | .defer _ => false
  | _ => true
theorem wpIn_of_wp {ro : Option Nat} {P : Program} {o : Oper} {a : Act} {w : World} {next : Act → World → Prop} {Q : Exit → Act → World → Prop} (hd : noDefer o.op = true) (h : o.wp P a w next Q) : o.wpIn (Fw ro) 0 P a w next Q := by
  refine ⟨fun _ _ => trivial, ?_⟩
  rw [Oper.semAt_eq _ _ _ (fun c hc => by rw [hc] at hd; cases hd)]
  unfold Oper.wp at h
  cases hr : (execOp a.eval o).run P w with
  | ok x w' =>
    rw [hr] at h
    cases x with
    | value v => exact h
    | skip => exact h
    | defer d => exact h
    | enter f args => exact ⟨fun h => by cases ro <;> simp [Fw, Fence.wide] at h, callsIn_fw h⟩
    | row r args => exact ⟨fun h => by cases ro <;> simp [Fw, Fence.wide] at h, rowsIn_fw h⟩
    | _ => exact h.elim
  | halt x w' =>
    rw [hr] at h
    cases x with
    | panic v => exact h
    | _ => exact h.elim

/-- Operations, code, in a round or outside. -/
def OI (ro : Option Nat) (P : Program) (N : Fr) (all : Array Oper) (l : List Oper) (Q : Goal) (σ : Env) (e : World) (L : List Res) : Prop := ∀ a w, Has N σ a → Sat e L w → wpListIn (Fw ro) 0 P all (WQ N Q) l a w
def WI (ro : Option Nat) (P : Program) (N : Fr) (c : Code) (Q : Goal) (σ : Env) (e : World) (L : List Res) : Prop := ∀ a w, Has N σ a → Sat e L w → c.wpIn (Fw ro) 0 P (WQ N Q) a w
section
variable {P : Program} {N : Fr} {Q : Goal} {σ : Env} {e : World} {L : List Res} {all : Array Oper} {rest : List Oper} {ro : Option Nat}
variable {d : Nat} {op : Op} {ty : TypeId} {pos : String} {af : Array Edge} {x : Operand}
theorem W.ofIn {c : Code} (h : WI none P N c Q σ e L) : W P N c Q σ e L := fun a w ha hs => wpIn_wide.1 (h a w ha hs)
theorem WI.region {id : Nat} {l : List Oper} (h : OI ro P N l.toArray l Q σ e L) : WI ro P N (.region id l.toArray false) Q σ e L := fun a w ha hs => wpIn_region_lit (h a w ha hs)
theorem WI.block {id : Nat} {c : Code} (h : WI ro P N c (blockQ id Q) σ e L) : WI ro P N (.block id c) Q σ e L := fun a w ha hs =>
  wpIn_block (Go.wpIn_mono (h a w ha hs) fun x a w q => by
    cases x with
    | exit i =>
      obtain ⟨σ', h1, h2⟩ := q
      simp only [Exit.inBlock]
      simp only [blockQ] at h2
      split
      · rename_i e; rw [if_pos e] at h2; exact ⟨σ', h1, h2⟩
      · rename_i e; rw [if_neg e] at h2; exact ⟨σ', h1, h2⟩
    | _ => exact q)
theorem WI.code {c c' : Code} (h : c = c') (k : WI ro P N c' Q σ e L) : WI ro P N c Q σ e L := h ▸ k
theorem OI.nil (h : Fin Q .normal σ e L) : OI ro P N all [] Q σ e L := fun _ w ha hs => ⟨σ, ha, h w hs⟩
theorem OI.do {dst : Option Tmp} (hn : noDefer op = true) (h : Do P N ⟨dst, op, ty, pos, af, none⟩ (fun σ' L' => OI ro P N all rest Q σ' e L') σ e L) : OI ro P N all (⟨dst, op, ty, pos, af, none⟩ :: rest) Q σ e L :=
  fun a w ha hs => wpListIn_plain rfl fun K hK => wpIn_of_wp hn (h a w ha hs K _ fun _ _ a' w' ho ha' hs' => hK a' w' (ho a' w' ha' hs'))
theorem OI.val (v : Value) (hn : noDefer op = true) (h : Val P N op ty v σ e L) (hd : Nat.blt d N.n = true) (k : OI ro P N all rest Q ((d, v) :: σ) e L) : OI ro P N all (⟨some d, op, ty, pos, af, none⟩ :: rest) Q σ e L :=
  OI.do hn (Do.val h hd k)
/-- A call of yield is one round. -/
def Rt (P : Program) (l : Nat) (args : Array Value) (e : World) (L : List Res) (Post : Value → List Res → Prop) : Prop := ∀ w, Sat e L w → YieldAt Fence.wide 0 P l args w (CtPost e Post)
theorem Rt.ent {l : Nat} {args : Array Value} {L' : List Res} {Post : Value → List Res → Prop} (h : Rt P l args e L' Post) (f : Ent L L') : Rt P l args e L Post := fun w hs => h w (hs.ent f)
theorem OI.yield {l : Nat} {xs : List Operand} {vs : List Value} {ats : Array TypeId} {Post : Value → List Res → Prop} (hf : ev σ x = some (.func (.yield l) #[] #[])) (hx : evs σ xs = some vs) (hd : Nat.blt d N.n = true) (h : Rt P l vs.toArray e L Post)
    (k : ∀ v L', Post v L' → OI none P N all rest Q ((d, v) :: σ) e L') : OI none P N all (⟨some d, .call { callee := .value x, args := xs.toArray, argTypes := ats }, ty, pos, af, none⟩ :: rest) Q σ e L := fun a w ha hs =>
  wpListIn_plain rfl fun K hK => by
    refine ⟨fun _ _ => trivial, ?_⟩
    obtain ⟨fn, tmps, assign, body, hy, hR⟩ := h w hs
    have h1 : (execOp a.eval ⟨some d, .call { callee := .value x, args := xs.toArray, argTypes := ats }, ty, pos, af, none⟩).run P w = .ok (.round l fn tmps assign body) w := by
      have h2 : (#[] ++ xs.toArray.map a.eval : Array Value) = vs.toArray := by simp [ha.evs hx]
      simp only [execOp, resolve, ha.ev hf, Deferred.ofValue, Sem.run_bind, Sem.run_pure, Result.andThen_ok, invoke]
      rw [h2]
      exact hy
    rw [show (Fw none).round = none from rfl, Oper.semAt_none, h1, Oper.uponIn_round]
    refine ⟨fun h => by simp [Fw, Fence.wide] at h, hR.mono ?_⟩
    rintro _ w' ⟨v, L', rfl, hp, hs'⟩
    exact hK _ _ (k v L' hp _ _ (ha.put hd v) hs')

/-! ### a round -/
def Lp (l : Nat) (r : Loop) : Res := Ob l (.loop r)
def Df (D : Nat) : Res := Ob D (.deferred (some []))
theorem Sat.put {o o' : Obj} {g : Nat} {R : List Res} {w : World} (h : Sat e (Ob g o :: R) w) : Sat e (Ob g o' :: R) (w.putObj g o') := by
  have hg : w.heap[g]? = some o := by
    obtain ⟨h1, h2, _, b, _, hA, _⟩ := h.2.2.2
    exact b g _ hA
  have hlt : g < w.heap.size := (Array.getElem?_eq_some_iff.1 hg).1
  refine h.change rfl rfl rfl fun h1 hle hA => ?_
  refine ⟨fun b => if b = g then some o' else none, ?_, by simp [Ob], ?_, ?_⟩
  · intro b o2 hb
    by_cases eb : b = g
    · subst eb; simp only [if_true] at hb; rw [← hb]; exact World.putObj_heap_same hlt
    · simp [eb] at hb
  · intro b o2 hb hn
    by_cases eb : b = g
    · subst eb; rw [show h1 b = _ from hA] at hn; cases hn
    · simp [eb] at hb
  · intro b hn o2 ho
    have : b ≠ g := by rintro rfl; rw [show h1 b = _ from hA] at hn; cases hn
    exact (World.putObj_heap_other this).trans ho
theorem Sat.obj {o : Obj} {g : Nat} {R : List Res} {w : World} (h : Sat e (Ob g o :: R) w) : w.heap[g]? = some o := by
  obtain ⟨h1, h2, _, b, _, hA, _⟩ := h.2.2.2
  exact b g _ hA
def QR (e : World) (l : Nat) (r : Loop) (L2 : List Res) : Goal := fun x σ w => x = .normal ∧ Sat e (Lp l { r with state := .busy } :: L2) w
theorem Fin.endR {l : Nat} {r : Loop} {L2 : List Res} (h : Ent L (Lp l { r with state := .busy } :: L2)) : Fin (QR e l r L2) .normal σ e L := fun w hs => ⟨rfl, hs.ent h⟩
def QA (P : Program) (N : Fr) (l : Nat) (r : Loop) (e : World) (Q : Goal) : Goal := fun x σ w => x = .normal ∧ ∃ L, Sat e (Lp l r :: L) w ∧ WI (some l) P N r.body Q σ e (Lp l { r with state := .busy } :: L)
theorem Fin.endA {l : Nat} {r : Loop} {L' : List Res} (h : Ent L (Lp l r :: L')) (hb : WI (some l) P N r.body Q σ e (Lp l { r with state := .busy } :: L')) : Fin (QA P N l r e Q) .normal σ e L := fun w hs => ⟨rfl, L', hs.ent h, hb⟩
/-- One round, of one value. -/
theorem Rt.mk {l p : Nat} {r : Loop} {v : Value} {L2 : List Res} (hst : r.state = .ready) (hpe : r.pending = none) (hpa : r.params = #[p]) (hp : Nat.blt p N.n = true) (hN : N.ds = []) (hr : Has N σ { tmps := r.tmps, defers := [] })
    (h : WI (some l) P N r.assign (QA P N l r e (QR e l r L2)) ((p, v) :: σ) e (Lp l r :: L)) : Rt P l #[v] e (Lp l r :: L) (fun v' L' => v' = .bool true ∧ L' = Lp l r :: L2) := fun w hs => by
  have hl := hs.obj
  refine ⟨_, _, _, _, run_yield hl (by rw [hpa]; rfl), roundIn_of_wpIn trivial ?_⟩
  have hh := hr.put hp v
  have ht : ((r.params.zip #[v]).foldl (fun tmps (t, a) => tmps.setIfInBounds t a) r.tmps) = r.tmps.setIfInBounds p v := by rw [hpa]; simp
  rw [ht]
  refine Go.wpIn_mono (h _ w hh hs) fun x a1 w1 q => ?_
  cases x with
  | normal =>
    obtain ⟨σ1, h1, _, L', hs1, hb⟩ := q
    have hl1 := hs1.obj
    refine ⟨_, run_beginRound hl1 hst, ?_⟩
    refine Go.wpIn_mono (hb a1 _ h1 hs1.put) fun x a2 w2 q => ?_
    cases x with
    | normal =>
      obtain ⟨σ2, h2, _, hs2⟩ := q
      have hl2 := hs2.obj
      refine ⟨_, _, run_endRound none hl2, .bool true, _, rfl, ⟨rfl, rfl⟩, ?_⟩
      have h3 := hs2.put (o' := .loop r)
      have h4 : ({ { r with state := .busy } with state := if (none : Option Code).isNone then .ready else .done, pending := none } : Loop) = r := by
        cases r; simp at hst hpe; subst hst hpe; rfl
      rw [h4]
      exact h3
    | panic _ => exact q.elim
    | outgrown => exact q.elim
    | _ => obtain ⟨_, _, h2, _⟩ := q; cases h2
  | panic _ => exact q.elim
  | outgrown => exact q.elim
  | _ => obtain ⟨_, _, h2, _⟩ := q; cases h2

/-! ### the statement, in a function's body -/
/-- Code of a body that holds such a statement. -/
def WM (P : Program) (fn : Func) (N : Nat) (c : Code) (Post : Value → List Res → Prop) (σ : Env) (e : World) (L : List Res) : Prop :=
  ∀ a w, Has ⟨N, []⟩ σ a → Sat e L w → c.wp P (bodyPostM Fence.wide 0 P fn (CtPost e Post)) a w
def NextM (P : Program) (fn : Func) (N : Nat) (y : Code) (Post : Value → List Res → Prop) (e : World) : Env → World → Prop := fun σ w => ∀ a, Has ⟨N, []⟩ σ a → y.wp P (bodyPostM Fence.wide 0 P fn (CtPost e Post)) a w
def NoQ : Goal := fun _ _ _ => False
theorem WM.seq {fn : Func} {n : Nat} {x y : Code} {Post : Value → List Res → Prop} (h : W P ⟨n, []⟩ x (thenQ (NextM P fn n y Post e) NoQ) σ e L) : WM P fn n (.seq x y) Post σ e L := fun a w ha hs =>
  wp_seq (Code.wp_mono (fun x a w q => by
    cases x with
    | normal => exact q.elim fun σ' h => h.2 a h.1
    | panic _ => exact q.elim
    | outgrown => exact q.elim
    | _ => obtain ⟨_, _, h2⟩ := q; exact h2.elim) (h a w ha hs))
theorem Fin.nextM {fn : Func} {n : Nat} {y : Code} {Post : Value → List Res → Prop} (h : WM P fn n y Post σ e L) : Fin (thenQ (NextM P fn n y Post e) Q) .normal σ e L := fun w hs a ha => h a w ha hs
theorem Ct.enterM {f : FuncId} {fn : Func} {c : Code} {n : Nat} {args : List Value} {Post : Value → List Res → Prop}
    (hf : P.funcs[f]? = some fn) (hb : fn.body = some c) (hN : fn.ntmps = n) (hle : Nat.ble args.length n = true)
    (h : WM P fn n c Post (argsEnv 0 args) e L) : Ct P f args.toArray e L Post := by
  subst hN
  intro w hs
  have hle := Nat.le_of_ble_eq_true hle
  refine (callsIn_wide (n := 0)).1 (callsIn_of_wp_marks hf hb trivial (wpIn_wide.2 (h _ w ⟨by simp; omega, rfl, fun k v hk => ?_⟩ hs)))
  have h1 := (get_argsEnv args 0 k v hk).2
  have hlt : k < args.length := (List.getElem?_eq_some_iff.1 h1).1
  rw [Array.getElem?_append_left (by simpa using hlt)]
  simpa using h1
def mk (D : Nat) : Deferred := { target := .collected D, args := #[] }
def PostM (D : Nat) (Post : Value → List Res → Prop) : Value → List Res → Prop := fun v L' => ∃ L1, L' = Df D :: L1 ∧ Post v L1
theorem endM {fn : Func} {rs : Array ResultVar} {n D : Nat} {Post : Value → List Res → Prop} (hr : fn.results = rs) {x : Exit} {a : Act} {w : World} (q : WQ ⟨n, [mk D]⟩ (BodyQ rs (CtPost e (PostM D Post))) x a w) : bodyPostM Fence.wide 0 P fn (CtPost e Post) x a w := by
  subst hr
  have key : ∀ σ', Has ⟨n, [mk D]⟩ σ' a → (∃ vs, retvs σ' fn.results.toList = some vs ∧ CtPost e (PostM D Post) (.returned (tup vs)) w) → LeavesInM Fence.wide 0 P fn a.tmps (CtPost e Post) a.defers .returning w := fun σ' h1 ⟨vs, h2, v, L', h3, ⟨L1, h4, h5⟩, h6⟩ => by
    cases h3
    subst h4
    rw [h1.defers]
    refine ⟨by simp, .inl ⟨D, _, rfl, run_takeDeferred h6.obj, ?_⟩⟩
    exact ⟨_, run_results h1 h2, _, L1, rfl, h5, h6.put.ent (Ent.drop Ent.rfl)⟩
  cases x with
  | normal => obtain ⟨σ', h1, h2⟩ := q; exact key σ' h1 h2
  | ret => obtain ⟨σ', h1, h2⟩ := q; exact key σ' h1 h2
  | panic _ => exact q.elim
  | outgrown => exact q.elim
  | exit _ => obtain ⟨_, _, h2⟩ := q; exact h2.elim
  | goto _ => obtain ⟨_, _, h2⟩ := q; exact h2.elim
def EndQ (P : Program) (fn : Func) (Post : Value → List Res → Prop) (e : World) : Exit → Act → World → Prop := bodyPostM Fence.wide 0 P fn (CtPost e Post)
def WB (P : Program) (fn : Func) (n : Nat) (c y : Code) (Post : Value → List Res → Prop) (σ : Env) (e : World) (L : List Res) : Prop :=
  ∀ a w, Has ⟨n, []⟩ σ a → Sat e L w → c.wp P (Exit.then (y.wp P (EndQ P fn Post e)) (EndQ P fn Post e)) a w
def NextB (P : Program) (fn : Func) (n : Nat) (c y : Code) (Post : Value → List Res → Prop) (e : World) : Env → World → Prop := fun σ w => ∀ a, Has ⟨n, []⟩ σ a → c.wp P (Exit.then (y.wp P (EndQ P fn Post e)) (EndQ P fn Post e)) a w
theorem Fin.nextB {fn : Func} {n : Nat} {c y : Code} {Post : Value → List Res → Prop} (h : WB P fn n c y Post σ e L) : Fin (thenQ (NextB P fn n c y Post e) Q) .normal σ e L := fun w hs a ha => h a w ha hs
theorem WM.seqB {fn : Func} {n : Nat} {x b y : Code} {Post : Value → List Res → Prop} (h : W P ⟨n, []⟩ x (thenQ (NextB P fn n b y Post e) NoQ) σ e L) : WM P fn n (.seq (.seq x b) y) Post σ e L := fun a w ha hs =>
  wp_seq (wp_seq (Code.wp_mono (fun x a w q => by
    cases x with
    | normal => exact q.elim fun σ' h => h.2 a h.1
    | panic _ => exact q.elim
    | outgrown => exact q.elim
    | _ => obtain ⟨_, _, h2⟩ := q; exact h2.elim) (h a w ha hs)))
/-- The statement; behind it the rest of the body. -/
theorem WB.range {fn : Func} {n id : Nat} {g : Operand} {ps : Array Tmp} {assign body y : Code} {gf gf' : FuncId} {lb : List Value} {rs : Array ResultVar} {Post : Value → List Res → Prop} [i : CallT P gf gf']
    (hrs : fn.results = rs) (hg : ev σ g = some (.func (.func gf) #[] lb.toArray)) (M : List Res)
    (hit : ∀ (l D : Nat) (r : Loop), r.state = .ready → r.pending = none → r.params = ps → r.assign = assign → r.body = body → Has ⟨n, []⟩ σ { tmps := r.tmps, defers := [] } →
      Ct P gf' (.func (.yield l) #[] #[] :: lb).toArray e (Lp l r :: Df D :: L) (fun _ L' => L' = Lp l r :: Df D :: M))
    (hy : ∀ D, W P ⟨n, [mk D]⟩ y (BodyQ rs (CtPost e (PostM D Post))) σ e (Df D :: M)) :
    WB P fn n (.block id (.rangeFunc g ps assign body)) y Post σ e L := fun a w ha hs => by
  refine wp_block (wpIn_wide (n := 0) |>.1 (wpIn_rangeFunc fun f0 _ => ?_))
  obtain ⟨r, hr⟩ : ∃ r : Loop, r = { state := .ready, pending := none, fn := f0, tmps := a.tmps, params := ps, assign := assign, body := body, defers := w.heap.size } := ⟨_, rfl⟩
  have hs1 : Sat e (Lp (w.heap.size + 1) r :: Df w.heap.size :: L) ((w.alloc (.deferred (some []))).alloc (.loop r)) := by
    have h1 := (hs.alloc (.deferred (some []))).alloc (.loop r)
    rwa [World.size_alloc] at h1
  refine ⟨w.heap.size + 1, [mk w.heap.size], (w.alloc (.deferred (some []))).alloc (.loop r), { target := .fn (.func gf) lb.toArray, args := #[.func (.yield (w.heap.size + 1)) #[] #[]] }, (w.alloc (.deferred (some []))).alloc (.loop r), gf', (Value.func (.yield (w.heap.size + 1)) #[] #[] :: lb).toArray, (w.alloc (.deferred (some []))).alloc (.loop r), ?_, ?_, fun _ _ => trivial, ?_, fun h => by simp [Fence.wide] at h, ?_⟩
  · rw [hr]; exact run_enterLoop_outer _ _ _ _ _
  · simp only [resolve, ha.ev hg, Deferred.ofValue, Sem.run_pure]
    simp [Act.eval]
  · simp only [invoke]
    have h2 : (#[Value.func (.yield (w.heap.size + 1)) #[] #[]] ++ lb.toArray : Array Value) = (.func (.yield (w.heap.size + 1)) #[] #[] :: lb).toArray := by simp
    rw [h2, i.run]
  · refine callsIn_wide.2 ((hit (w.heap.size + 1) w.heap.size r (by rw [hr]) (by rw [hr]) (by rw [hr]) (by rw [hr]) (by rw [hr]) ⟨by rw [hr]; exact ha.size, rfl, fun k v hk => by rw [hr]; exact ha.val k v hk⟩ _ hs1).mono ?_)
    rintro _ w' ⟨v, L', rfl, rfl, hs'⟩
    refine ⟨none, w'.putObj (w.heap.size + 1) (.loop { r with state := .exhausted }), ?_, ?_⟩
    · have := run_endLoop (P := P) hs'.obj (by rw [hr]; simp)
      rw [this]
      rw [show r.pending = none by rw [hr]]
    · have h3 := hs'.put (o' := .loop { r with state := .exhausted })
      have h4 := hy w.heap.size { a with defers := [mk w.heap.size] ++ a.defers } _ ⟨ha.size, by rw [ha.defers]; rfl, ha.val⟩ (h3.ent (Ent.drop Ent.rfl))
      exact Code.wp_mono (fun x a w q => endM hrs q) h4
end
end Go.Bs
